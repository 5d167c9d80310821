/-
  Part 2 of the library that the proof leans on.
-/
import Derived.Test.YtjeejiegdkojdaaGreatDoorL1
namespace Go.M
open Go
theorem BN:∀(l:List Value) (k off:Nat) (c:Array Value),off+k+l.length≤c.size→
 ((l.zipIdx k).foldl (fun cs p=>cs.setIfInBounds (off+p.2) p.1) c).size=c.size∧
 ∀i,((l.zipIdx k).foldl (fun cs p=>cs.setIfInBounds (off+p.2) p.1) c)[i]? =if off+k≤i∧i<off+k+l.length then l[i - (off+k)]? else c[i]?
 |[],k,off,c,h=>⟨rfl,fun i=>by rw[if_neg (by simp)];rfl⟩
 |v::l,k,off,c,h=>by
  simp only[List.length_cons]at h;have ih:=BN l (k+1) off (c.setIfInBounds (off+k) v) (by simp;omega);simp only[List.zipIdx_cons,List.foldl_cons];refine⟨by rw[ih.1];simp,fun i=>?_⟩;rw[ih.2 i];by_cases h1:off+(k+1)≤i∧i<off+(k+1)+l.length
  ·rw[if_pos h1,if_pos (by simp;omega)];have:i - (off+k)=(i - (off+(k+1)))+1:=by omega
   rw[this,List.getElem?_cons_succ]
  ·rw[if_neg h1];by_cases h2:i=off+k
   ·subst h2;rw[if_pos (by simp),Array.getElem?_setIfInBounds_self_of_lt om];simp
   ·rw[if_neg (by simp;omega),Array.getElem?_setIfInBounds_ne om]
theorem sf {μ:bn} {place place':Nat→Option (Nat×Nat)} (hp:∀i p,place i=some p→place' i=some p):∀{ps ps':List (Nat×Value)} {cells cs:List Value} {cells':Array Value},
 ka place cells ps=some cs→ay μ cells cells'.toList→(ps.length=ps'.length)→(∀(k:Nat) q,ps[k]? =some q→∃v',ps'[k]? =some (q.1,v')∧au μ q.2 v')→
 ∃cs',Instr.fill place' cells' ps'=some cs'∧ay μ cs cs'.toList
 |[],ps',cells,cs,cells',h,hr,hl,hq=>by
  cases ps' with
  |nil=>simp only[ka,Option.some.injEq]at h;subst h;exact⟨cells',rfl,hr⟩
  |cons _ _=>simp at hl
 |(i,v)::ps,[],_,_,_,_,_,hl,_=>by simp at hl
 |(i,v)::ps,q'::ps',cells,cs,cells',h,hr,hl,hq=>by
  obtain⟨v',e1,hv⟩:=hq 0 (i,v) rfl;simp only[List.getElem?_cons_zero,Option.some.injEq]at e1;subst e1;simp only at hv;simp only[ka,Option.bind_eq_some_iff,ai,beq_iff]at h;obtain⟨⟨off,size⟩,h1,h2,c1,h3,h4⟩:=h;simp only at h2;obtain⟨s1,s2,s3⟩:=dv h3;have hlen:=hr.length;have Ue:=hv.wT;have IL:off+v'.cells.toList.length≤cells'.size:=by
   simp at s1 hlen ⊢;omega
  have zf:=BN v'.cells.toList 0 off cells' om;have uc:ay μ c1 (v'.cells.zipIdx.foldl (fun cs p=>cs.setIfInBounds (off+p.2) p.1) cells').toList:=by
   have e:v'.cells.zipIdx.foldl (fun cs (p:Value×Nat)=>cs.setIfInBounds (off+p.2) p.1) cells'=(v'.cells.toList.zipIdx 0).foldl (fun cs p=>cs.setIfInBounds (off+p.2) p.1) cells':=by
    rw[←Array.foldl_toList];simp
   rw[e];refine .Gx ?_ fun j a a' ha wZ=>?_
   ·simp only[Array.length_toList];rw[zf.1,s2];simpa using hlen
   ·rw[s3 j]at ha;rw[Array.getElem?_toList,zf.2 j]at wZ;simp only[Nat.add_zero]at wZ;have Y7:v.cells.toList.length=v'.cells.toList.length:=by simpa using Ue
    by_cases hj:off≤j∧j<off+v.cells.toList.length
    ·simp only at ha;rw[if_pos hj]at ha;rw[if_pos (by rw[←Y7];exact hj)]at wZ;obtain⟨u,k1,k2⟩:=hv.cells.get ha;rw[wZ]at k1;cases k1;exact k2
    ·simp only at ha;rw[if_neg hj]at ha;rw[if_neg (by rw[←Y7];exact hj)]at wZ;obtain⟨u,k1,k2⟩:=hr.get ha;simp[wZ]at k1;subst k1;exact k2
  have ih:=sf hp (ps':=ps') h4 uc (by simpa using hl) (fun k q hk=>hq (k+1) q (by simpa using hk));obtain⟨cs',r1,r2⟩:=ih;refine⟨cs',?_,r2⟩;simp only[Instr.fill,hp _ _ h1];have hs:v'.cells.size=size:=by rw[←Ue];exact h2
  rw[if_neg]
  ·exact r1
  ·simp at IL;simp[hs];omega
def Y8 (μ:bn) (ps ps':List (Nat×Value)):Prop:=ps.length=ps'.length∧∀(k:Nat) q,ps[k]? =some q→∃v',ps'[k]? =some (q.1,v')∧au μ q.2 v'
section
variable {P:Program} {E:Env} {μ:bn}
theorem DE (hE:bu P E) (g:Field→Nat×Nat):∀(fs:List Field) (w:World),(∀f∈fs,∃n,E.size f.type=some n∧g f=(f.offset,n))→
 (fs.mapM (m:=Sem) fun f=>do pure (f.offset,←sizeOf f.type)).run P w= .ok (fs.map g) w
 |[],w,_=>by simp
 |f::fs,w,h=>by
  obtain⟨n,h1,h2⟩:=h f (by simp);have ih:=DE hE g fs w (fun x hx=>h x (by simp[hx]));simp only[List.mapM_cons,Sem.run_bind,fR hE h1 w,Result.andThen_ok,Sem.run_pure,ih,List.map_cons,h2]
theorem Ra (hE:bu P E) {t:TypeId} {ps ps':List (Nat×Value)} {v:Value} (h:tX E t ps=some v) (hp:Y8 μ ps ps'):∃v',au μ v v'∧fx P (Instr.build t ps'.toArray) v':=by
 unfold tX at h;simp only[Option.bind_eq_some_iff]at h;obtain⟨d,h1,z,h2,h3⟩:=h;have hz:=au.cb μ (hE.zero t z h2).2;have Uf:ay μ z.cells.toList z.cells.toList:=hz.cells;split at h3
 ·rename_i fields;simp only[ai,Option.bind_eq_some_iff,Option.some.injEq]at h3;obtain⟨iY,cs,h4,rfl⟩:=h3;have Vz:∀f∈fields.toList,∃n,E.size f.type=some n∧(fun f:Field=>(f.offset,(E.size f.type).getD 0)) f=(f.offset,n):=by
   intro f hf;rw[Array.all_eq_true]at iY;obtain⟨i,hi,rfl⟩:=List.mem_iff_getElem.1 hf;have:=iY i (by simpa using hi);obtain⟨n,hn⟩:=Option.isSome_iff_exists.1 this;have Rb:E.size (fields.toList[i]).type=some n:=by simpa using hn
   exact⟨n,Rb,by simp only[Rb,Option.getD_some]⟩
  have VA:∀i p,qS E fields i=some p→((fields.toList.map (fun f:Field=>(f.offset,(E.size f.type).getD 0))).toArray)[i]? =some p:=by
   intro i p hi;unfold qS at hi;simp only[Option.bind_eq_some_iff,Option.some.injEq]at hi;obtain⟨fd,k1,n,k2,rfl⟩:=hi;simp[k1,k2]
  obtain⟨cs',q1,q2⟩:=sf (μ:=μ) VA (ps':=ps') h4 Uf hp.1 hp.2;refine⟨.agg cs',.gz (by simpa using q2),fun w=>?_⟩;have hm:=DE hE (fun f:Field=>(f.offset,(E.size f.type).getD 0)) fields.toList w Vz;unfold Instr.build;simp only[Sem.run_bind,j6 hE h2 w,Result.andThen_ok,aH hE h1 w];have VB:(fields.mapM (m:=Sem) fun f=>do pure (f.offset,←sizeOf f.type)).run P w= .ok (fields.toList.map (fun f:Field=>(f.offset,(E.size f.type).getD 0))).toArray w:=by
   rw[Array.mapM_eq_mapM_toList];simp only[Sem.run_map,hm,Result.andThen_ok]
  simp only[VB,Result.andThen_ok,q1,Sem.run_pure]
 ·rename_i len elem;simp only[Option.bind_eq_some_iff,Option.some.injEq]at h3;obtain⟨n,h3,cs,h4,rfl⟩:=h3;obtain⟨cs',q1,q2⟩:=sf (μ:=μ) (place':=fun i=>some (i*n,n)) (fun _ _ h=>h) (ps':=ps') h4 Uf hp.1 hp.2;refine⟨.agg cs',.gz (by simpa using q2),fun w=>?_⟩;unfold Instr.build;simp only[Sem.run_bind,j6 hE h2 w,Result.andThen_ok,aH hE h1 w,fR hE h3 w,q1,Sem.run_pure]
 ·cases h3
theorem u4 {s:Sem Value} {v:Value} (h:eG s=some v):fx P s v:=by
 intro w;cases s<;>simp[eG]at h;subst h;rfl
theorem re (hE:bu P E) {op:BinOp} {t:TypeId} {x y:Operand} {a b a' b':Value} (ha:au μ a a') (hb:au μ b b')
 (hg:nu E t x y a b=true):fx P (eqGuard op t x y a' b') ():=by
 intro w;unfold eqGuard;cases op<;>(try rfl)
 all_goals
  simp only[Bool.not_true,Bool.false_eq_true,if_false];split
  ·cases ha with
   |lit _=>cases hb with
    |lit _=>
     simp only[nu]at hg;cases x<;>cases y<;>simp[oW]at hg<;>simp
    |BH _=>simp[nu]at hg
   |BH _=>simp[nu]at hg
  ·rename_i u1 u2;cases ha with
   |lit hh=>simp[aC]at hh
   |agg h1 h2=>cases hb with
    |lit hh=>simp[aC]at hh
    |agg k1 k2=>
     simp only[nu]at hg;simp[run_program,(hE.qR t hg).1]
    |BH hh=>rcases hh with hh|⟨_,_,hh⟩<;>cases hh
   |BH hh=>rcases hh with hh|⟨_,_,hh⟩<;>cases hh
  ·rfl
theorem Y9 (hE:bu P E) {op:BinOp} {t:TypeId} {x y:Operand} {a b a' b' v:Value} (h:wQ E op t x y a b=some v) (ha:au μ a a') (hb:au μ b b'):
 ∃v',au μ v v'∧fx P (do eqGuard op t x y a' b';binOp op t a' b') v':=by
 unfold wQ at h;split at h
 ·cases ha.ax rfl;cases hb.ax rfl;rename_i k n k' n';have hs:scalar v=true:=by
   simp only[binOp]at h;have:∀s:Sem Value,eG s=some v→(∃u,s= .pure u∧scalar u=true)→scalar v=true:=by
    rintro s hs ⟨u,rfl,hu⟩;simp[eG]at hs;subst hs;exact hu
   cases op<;>simp only at h<;>(try split at h)<;>
    first
    |(simp[eG,stuck]at h;done)
    |(simp only[eG,Op.intArith,Op.intBits,Op.intCmp,Pure.pure,Option.some.injEq]at h;subst h;rfl)
    |(unfold Op.intDiv at h;split at h
      ·simp[runtimePanic,eG,program,bind,Sem.bind]at h
      ·simp only[eG,Pure.pure,Option.some.injEq]at h;subst h;rfl)
    |(unfold Op.shift at h;split at h
      ·simp[runtimePanic,eG,program,bind,Sem.bind]at h
      ·simp only[eG,Pure.pure,Option.some.injEq]at h;subst h;rfl)
  refine⟨v,.pU μ hs,fun w=>?_⟩;have hg:=re hE (μ:=μ) (op:=op) (t:=t) (x:=x) (y:=y) (.int μ k n) (.int μ k' n') rfl w;simp only[Sem.run_bind,hg,Result.andThen_ok];exact u4 h w
 ·cases ha.ax rfl;cases hb.ax rfl;rename_i s r;have hg:∀w,(eqGuard op t x y (.string s) (.string r)).run P w= .ok () w:=re hE (μ:=μ) (.string μ s) (.string μ r) rfl;have et:∀q:ByteArray,q.toList=q.data.toList:=fun q=>ByteArray.toList_eq q;split at h<;>(first|(simp only[Option.some.injEq]at h;subst h;refine⟨_,.lit rfl,fun w=>?_⟩;simp only[Sem.run_bind,hg w,Result.andThen_ok];simp[binOp,Op.stringOp,et])|skip)
  ·simp only[ai,decide_eq_true_eq,Option.some.injEq]at h;obtain⟨h1,rfl⟩:=h;refine⟨_,.lit rfl,fun w=>?_⟩;simp only[Sem.run_bind,hg w,Result.andThen_ok];have e:IntKind.i64.max=9223372036854775807:=by decide
   simp only[binOp,Op.stringOp,e];rw[if_neg om];rfl
  ·cases h
 ·rename_i Nk BO;simp only[ai]at h;obtain⟨h1,h2⟩:=h;have hg:=re hE (op:=op) (t:=t) (x:=x) (y:=y) ha hb h1;have key:∀r,vO E 100 t a b=some r→fx P (Op.equal t a' b') r:=fun r hr=>by
   unfold Op.equal Op.maxDepth;exact Y6 hE 100 10000 t a b a' b' r om hr ha hb
  have Ug:∀(w:World) r,fx P (Op.equal t a' b') r→(binOp .eql t a' b').run P w= .ok (.bool r) w∧(binOp .neq t a' b').run P w= .ok (.bool !r) w:=by
   intro w r hr;have hh:(∀k n k' n',¬(a'= .int k n∧b'= .int k' n'))∧(∀s r,¬(a'= .string s∧b'= .string r)):=by
    refine⟨?_,?_⟩
    ·rintro k n k' n' ⟨rfl,rfl⟩;cases ha with
     |BH hh=>rcases hh with hh|⟨_,_,hh⟩<;>cases hh
     |lit _=>cases hb with
      |BH hh=>rcases hh with hh|⟨_,_,hh⟩<;>cases hh
      |lit _=>exact Nk _ _ _ _ rfl rfl
    ·rintro s r ⟨rfl,rfl⟩;cases ha with
     |BH hh=>rcases hh with hh|⟨_,_,hh⟩<;>cases hh
     |lit _=>cases hb with
      |BH hh=>rcases hh with hh|⟨_,_,hh⟩<;>cases hh
      |lit _=>exact BO _ _ rfl rfl
   have ud:(∀k n k' n',¬(a'= .float k n∧b'= .float k' n'))∧(∀k x y k' x' y',¬(a'= .complex k x y∧b'= .complex k' x' y')):=by
    refine⟨?_,?_⟩
    ·rintro k n k' n' ⟨rfl,rfl⟩;cases ha with|lit hx=>simp[aC]at hx|BH hh=>rcases hh with hh|⟨_,_,hh⟩<;>cases hh
    ·rintro k x y k' x' y' ⟨rfl,rfl⟩;cases ha with|lit hx=>simp[aC]at hx|BH hh=>rcases hh with hh|⟨_,_,hh⟩<;>cases hh
   have kQ:=hr w
   cases a'<;>cases b'<;>
    first
    |exact absurd ⟨rfl,rfl⟩ (hh.1 _ _ _ _)
    |exact absurd ⟨rfl,rfl⟩ (hh.2 _ _)
    |exact absurd ⟨rfl,rfl⟩ (ud.1 _ _ _ _)
    |exact absurd ⟨rfl,rfl⟩ (ud.2 _ _ _ _ _ _)
    |(simp only[binOp];simp only[Sem.run_bind,kQ,Result.andThen_ok,Sem.run_pure];exact⟨trivial,trivial⟩)
  split at h2
  ·simp only[Option.bind_eq_some_iff,Option.some.injEq]at h2;obtain⟨r,h3,rfl⟩:=h2;exact⟨_,.bool μ r,fun w=>by simp only[Sem.run_bind,hg w,Result.andThen_ok];exact(Ug w r (key r h3)).1⟩
  ·simp only[Option.bind_eq_some_iff,Option.some.injEq]at h2;obtain⟨r,h3,rfl⟩:=h2;exact⟨_,.bool μ _,fun w=>by simp only[Sem.run_bind,hg w,Result.andThen_ok];exact(Ug w r (key r h3)).2⟩
  ·cases h2
end
theorem gM (r o n:Nat):(⟨r,o,none⟩:Addr).add n=⟨r,o+n,none⟩:=by
 unfold Addr.add;by_cases h:n=0
 ·simp[h]
 ·simp[h]
def si (μ:bn) (x x':Option Value):Prop:=match x,x' with
 |none,none=>True
 |some v,some v'=>au μ v v'
 |_,_=>False
theorem fS {Kc y:Nat} {x:Option Value} {n:Nat} (h:cq Kc y x=some n):(x=none∧n=Kc)∨(∃k i,x=some (.int k i)∧0≤i∧i≤y∧n=i.toNat):=by
 unfold cq at h;split at h
 ·simp at h;exact .inl ⟨rfl,h.symm⟩
 ·simp only[ai,Bool.and_eq_true,decide_eq_true_eq,Option.some.injEq]at h;exact .inr ⟨_,_,rfl,h.1.1,h.1.2,h.2.symm⟩
 ·cases h
theorem dL {P:Program} {k:IntKind} {i:Int} {y:Nat} (h0:0≤i) (h1:i≤y) (code:BoundsCode):fx P (Instr.sliceBound (.int k i) y code) i.toNat:=by
 intro w;simp[Instr.sliceBound,asIntOf,h0,h1]
theorem l6 {P:Program} {μ:bn} (isSlice:Bool) {len cap cap':Nat} (IM:len≤cap') {lo hi mx Yt BP Nf:Option Value} {m h l:Nat}
 (hm:cq cap len mx=some m) (hh:cq len (bif mx.isSome then m else len) hi=some h) (hg:(hi.isSome||mx.isNone)=true) (hl:cq 0 h lo=some l)
 (rl:si μ lo Yt) (rh:si μ hi BP) (rm:si μ mx Nf):
 fx P (Instr.sliceBounds isSlice len cap' Yt BP Nf) (l,h,if mx.isSome then m else cap')∧l≤h∧h≤len∧(mx.isSome=true→m≤len∧h≤m)∧(mx=none→m=cap):=by
 have key:∀{x x':Option Value} {k:IntKind} {i:Int},x=some (.int k i)→si μ x x'→x'=some (.int k i):=by
  intro x x' k i hx hr;subst hx;cases x' with
  |none=>exact hr.elim
  |some v'=>rw[au.ax hr rfl]
 have DF:∀{x x':Option Value},x=none→si μ x x'→x'=none:=by
  intro x x' hx hr;subst hx;cases x' with
  |none=>rfl
  |some v'=>exact hr.elim
 have u5:l≤h:=by
  rcases fS hl with⟨_,rfl⟩|⟨k,i,_,h0,h1,rfl⟩<;>omega
 rcases fS hm with⟨em,rfl⟩|⟨k,i,em,m0,m1,rfl⟩
 ·have Za:=DF em rm;subst em;subst Za;simp only[Option.isSome_none,cond_false]at hh;rcases fS hh with⟨eh,rfl⟩|⟨k2,i2,eh,p0,p1,rfl⟩
  ·have Zb:=DF eh rh;subst eh;subst Zb;refine⟨fun w=>?_,u5,Nat.le_refl _,fun h=>by simp at h,fun _=>rfl⟩;rcases fS hl with⟨el,rfl⟩|⟨k3,i3,el,q0,q1,rfl⟩
   ·have Nl:=DF el rl;subst el;subst Nl;simp[Instr.sliceBounds]
   ·have Nl:=key el rl;subst el;subst Nl;simp[Instr.sliceBounds,dL q0 q1 _ w]
  ·have Zb:=key eh rh;subst eh;subst Zb;refine⟨fun w=>?_,u5,om,fun h=>by simp at h,fun _=>rfl⟩;rcases fS hl with⟨el,rfl⟩|⟨k3,i3,el,q0,q1,rfl⟩
   ·have Nl:=DF el rl;subst el;subst Nl;simp[Instr.sliceBounds,dL p0 (show i2≤(cap':Int) by omega) _ w]
   ·have Nl:=key el rl;subst el;subst Nl;simp[Instr.sliceBounds,dL p0 (show i2≤(cap':Int) by omega) _ w,dL q0 q1 _ w]
 ·have Za:=key em rm;subst em;subst Za;simp only[Option.isSome_some,cond_true]at hh;rcases fS hh with⟨eh,rfl⟩|⟨k2,i2,eh,p0,p1,rfl⟩
  ·subst eh;simp at hg
  ·have Zb:=key eh rh;subst eh;subst Zb;refine⟨fun w=>?_,u5,om,fun _=>⟨om,om⟩,fun h=>by simp at h⟩;rcases fS hl with⟨el,rfl⟩|⟨k3,i3,el,q0,q1,rfl⟩
   ·have Nl:=DF el rl;subst el;subst Nl;simp[Instr.sliceBounds,dL m0 (show i≤(cap':Int) by omega) _ w,dL p0 p1 _ w]
   ·have Nl:=key el rl;subst el;subst Nl;simp[Instr.sliceBounds,dL m0 (show i≤(cap':Int) by omega) _ w,dL p0 p1 _ w,dL q0 q1 _ w]
section
variable {P:Program} {E:Env} {μ:bn}
theorem Kg (hE:bu P E) {t:TypeId} {x x' v:Value} {lo hi mx Yt BP Nf:Option Value} (h:iE E t x lo hi mx=some v) (hx:au μ x x') (rl:si μ lo Yt) (rh:si μ hi BP) (rm:si μ mx Nf):
 ∃v',au μ v v'∧fx P (Instr.sliceAt t x' Yt BP Nf) v':=by
 unfold iE at h;simp only[Option.bind_eq_some_iff]at h;obtain⟨d,hd,h⟩:=h;split at h
 ·rename_i s;cases hx.ax rfl;simp only[ai,Option.bind_eq_some_iff,Option.some.injEq]at h;obtain⟨hm,hh,h1,ll,h2,rfl⟩:=h;have em:mx=none:=by simpa using hm
  subst em
  have Za:Nf=none:=by cases Nf with
   |none=>rfl
   |some v'=>exact rm.elim
  subst Za;have gb:=(l6 (P:=P) (μ:=μ) false (cap':=s.size) (Nat.le_refl _) (cap:=s.size) (mx:=none) (Nf:=none) rfl (by simpa using h1) (by simp) h2 rl rh trivial).1;refine⟨_,.string μ _,fun w=>?_⟩;simp[Instr.sliceAt,aH hE hd w,Instr.slice,gb w]
 ·cases hx with
  |lit _=>
  simp only[Option.bind_eq_some_iff,ai,Option.some.injEq]at h;obtain⟨size,hs,m,hm,hh,h1,hg,ll,h2,rfl⟩:=h;obtain⟨gb,q1,q2,q3,q4⟩:=l6 (P:=P) (μ:=μ) true (cap':=0) (Nat.le_refl _) hm h1 hg h2 rl rh rm;refine⟨_,.lit rfl,fun w=>?_⟩;have e0:hh=0:=by omega
  have e1:ll=0:=by omega
  subst e0;subst e1;have e2:(if mx.isSome=true then m else 0)=0:=by
   cases gN:mx.isSome with
   |true=>have:=(q3 gN).1;simp;omega
   |false=>simp
  simp only[Instr.sliceAt,Sem.run_bind,aH hE hd w,Result.andThen_ok,Instr.slice,gb w,fR hE hs w,Sem.run_pure,e2];simp
 ·rename_i elem b o z len cap;simp only[Option.bind_eq_some_iff,ai,beq_iff,Option.some.injEq]at h;obtain⟨size,hs,e,m,hm,hh,h1,hg,ll,h2,rfl⟩:=h;subst e
  have main:∀(a':Addr) (cap':Nat),x'= .slice (some a') len cap'→len≤cap'→∃m',fx P (Instr.sliceAt t x' Yt BP Nf) (.slice (some (if m'=ll then a' else a'.add (ll*size))) (hh - ll) (m' - ll))∧
   (m'=if mx.isSome then m else cap')∧ll≤hh∧hh≤len∧(mx.isSome=true→m≤len∧hh≤m)∧(mx=none→m=cap):=by
   intro a' cap' ex IM;obtain⟨gb,q1,q2,q3,q4⟩:=l6 (P:=P) (μ:=μ) true IM hm h1 hg h2 rl rh rm;refine⟨if mx.isSome then m else cap',fun w=>?_,rfl,q1,q2,q3,q4⟩;subst ex;simp only[Instr.sliceAt,Sem.run_bind,aH hE hd w,Result.andThen_ok,Instr.slice,gb w,fR hE hs w,Sem.run_pure]
   congr 2
   by_cases hz:(if mx.isSome=true then m else cap')=ll
   ·rw[if_pos hz,if_pos hz]
   ·rw[if_neg hz,if_neg hz];rfl
  cases hx with
  |lit hh=>simp[aC]at hh
  |slice hb k1 k2 k3 k4=>
   rename_i cap' mt;obtain⟨m',g1,e1,q1,q2,q3,q4⟩:=main _ _ rfl k2;refine⟨_,?_,g1⟩;by_cases hz:m'=ll
   ·rw[if_pos hz];have e2:hh - ll=0:=by
     cases gN:mx.isSome with
     |true=>have:=q3 gN;rw[gN]at e1;simp at e1;omega
     |false=>rw[gN]at e1;simp at e1;omega
    rw[e2,show m' - ll=0 by omega];simp only[bY];split<;>exact .cP fun _=>⟨_,hb⟩
   ·rw[if_neg hz,gM];have hmc:m≠ll:=by
     intro e2;cases gN:mx.isSome with
     |true=>rw[gN]at e1;simp at e1;omega
     |false=>
      have:=q4 (by simpa using gN);rw[gN]at e1;simp at e1;have:=k3 om;omega
    simp only[bY,beq_iff,if_neg hmc];have acw:m'≤cap':=by
     cases gN:mx.isSome with
     |true=>have:=q3 gN;rw[gN]at e1;simp at e1;omega
     |false=>rw[gN]at e1;simp at e1;omega
    have Zc:ll≤m':=by
     cases gN:mx.isSome with
     |true=>have:=q3 gN;rw[gN]at e1;simp at e1;omega
     |false=>rw[gN]at e1;simp at e1;omega
    have e3:mt.s+o+ll*size=mt.s+(o+ll*size):=by omega
    rw[e3];refine .slice hb ?_ ?_ ?_ ?_
    ·cases gN:mx.isSome with
     |true=>have:=q3 gN;omega
     |false=>have:=q4 (by simpa using gN);omega
    ·cases gN:mx.isSome with
     |true=>have:=q3 gN;rw[gN]at e1;simp at e1;omega
     |false=>rw[gN]at e1;simp at e1;omega
    ·intro e4;cases gN:mx.isSome with
     |true=>have:=q3 gN;rw[gN]at e1;simp at e1;omega
     |false=>
      have:=q4 (by simpa using gN);rw[gN]at e1;simp at e1;have:=k3 om;omega
    ·have:ll*size+(m' - ll)*size=m'*size:=by rw[←Nat.add_mul];congr 1;omega
     have:m'*size≤cap'*size:=Nat.mul_le_mul_right _ acw;omega
  |cP hb=>
   rename_i a';obtain⟨m',g1,e1,q1,q2,q3,q4⟩:=main a' 0 rfl (Nat.le_refl _);refine⟨_,?_,g1⟩;have Gz:m'=0:=by
    cases gN:mx.isSome with
    |true=>have:=q3 gN;rw[gN]at e1;simp at e1;omega
    |false=>rw[gN]at e1;simp at e1;omega
   have qE:ll=0:=by omega
   have Zd:hh=0:=by omega
   subst Gz;subst qE;subst Zd;simp only[if_true,Nat.sub_zero];simp only[bY];have hk:m≠0→_:=fun hc=>hb (by
    cases gN:mx.isSome with
    |true=>have:=q3 gN;omega
    |false=>have:=q4 (by simpa using gN);omega)
   split
   ·exact .cP fun hc=>hk om
   ·exact .cP fun hc=>hk om
 ·cases h
theorem DG (hE:bu P E) {t:TypeId} {x x' i i' v:Value} (h:fk E t x i=some v) (hx:au μ x x') (hi:au μ i i'):∃v',au μ v v'∧fx P (Instr.indexAt t x' i') v':=by
 unfold fk at h;simp only[Option.bind_eq_some_iff]at h;obtain⟨d,hd,n,hn,h⟩:=h;have ei:∃k,i= .int k n:=by
  unfold Q9 at hn;split at hn<;>simp at hn;subst hn;exact⟨_,rfl⟩
 obtain⟨k,rfl⟩:=ei;cases hi.ax rfl;split at h
 ·rename_i len elem b o;simp only[Option.bind_eq_some_iff,ai,Bool.and_eq_true,decide_eq_true_eq,Option.some.injEq]at h;obtain⟨size,hs,⟨h0,h1⟩,rfl⟩:=h;obtain⟨m,hb,rfl⟩:=hx.kl;refine⟨.pointer (some ⟨m.r,m.s+(o+n.toNat*size),none⟩),.ptr hb,fun w=>?_⟩;simp[Instr.indexAt,asIntOf,aH hE hd w,Instr.sureAddr,h0,h1,fR hE hs w,gM,Nat.add_assoc]
 ·rename_i elem b o z len cap;simp only[Option.bind_eq_some_iff,ai,Bool.and_eq_true,decide_eq_true_eq,Option.some.injEq]at h;obtain⟨size,hs,⟨h0,h1⟩,rfl⟩:=h;cases hx with
  |lit hh=>simp[aC]at hh
  |slice hb k1 k2 k3 k4=>
   rename_i cap' m;refine⟨.pointer (some ⟨m.r,m.s+(o+n.toNat*size),none⟩),.ptr hb,fun w=>?_⟩;simp[Instr.indexAt,asIntOf,aH hE hd w,h0,h1,fR hE hs w,gM,Nat.add_assoc]
  |cP=>exact absurd h1 om
 ·cases h
theorem Rc (hE:bu P E) {t:TypeId} {x x' i i' v:Value} (h:tY E t x i=some v) (hx:au μ x x') (hi:au μ i i'):∃v',au μ v v'∧fx P (Instr.index t x' i') v':=by
 unfold tY at h;simp only[Option.bind_eq_some_iff]at h;obtain⟨d,hd,n,hn,h⟩:=h;have ei:∃k,i= .int k n:=by
  unfold Q9 at hn;split at hn<;>simp at hn;subst hn;exact⟨_,rfl⟩
 obtain⟨k,rfl⟩:=ei;cases hi.ax rfl;split at h
 ·rename_i len elem cs;simp only[Option.bind_eq_some_iff,ai,Bool.and_eq_true,decide_eq_true_eq]at h;obtain⟨size,hs,⟨h0,h1⟩,h2⟩:=h;obtain⟨cs',rfl,hr⟩:=hx.fo;obtain⟨v',q1,q2⟩:=BM hE (μ:=μ) h2 hr;refine⟨v',q1,fun w=>?_⟩;have e:cs'.toList.toArray=cs':=by simp
  rw[e]at q2;simp only[Instr.index,asIntOf,Sem.run_bind,Sem.run_pure,Result.andThen_ok,aH hE hd w];rw[if_pos ⟨h0,h1⟩];simp only[Sem.run_bind,fR hE hs w,Result.andThen_ok,q2 w]
 ·rename_i s;simp only[ai,decide_eq_true_eq,Option.bind_eq_some_iff,Option.some.injEq]at h;obtain⟨h0,b,hb,rfl⟩:=h;cases hx.ax rfl;refine⟨_,.int μ _ _,fun w=>?_⟩;have e:s[n.toNat]? =some b:=by
   have:=(List.getElem?_eq_some_iff.1 hb);obtain⟨bH,hv⟩:=this;have VD:n.toNat<s.size:=by simpa using bH
   rw[getElem?_pos s n.toNat VD];simp only[Option.some.injEq];rw[←hv];rfl
  simp only[Instr.index,asIntOf,Sem.run_bind,Sem.run_pure,Result.andThen_ok,aH hE hd w];rw[if_pos h0,e];rfl
 ·cases h
theorem VE (hE:bu P E) {s d:TypeId} {x x' v:Value} (h:qD E s d x=some v) (hx:au μ x x'):∃v',au μ v v'∧fx P (convert s d x') v':=by
 unfold qD at h;simp only[Option.bind_eq_some_iff]at h;obtain⟨ds,h1,dd,h2,h⟩:=h;split at h
 ·rename_i k k' n;cases hx.ax rfl;simp only[Option.some.injEq]at h;subst h;refine⟨_,.int μ _ _,fun w=>?_⟩;unfold convert;simp only[Sem.run_bind,aH hE h1 w,aH hE h2 w,Result.andThen_ok];rfl
 ·rename_i str;cases hx.ax rfl;simp only[Option.some.injEq]at h;subst h;refine⟨_,.string μ _,fun w=>?_⟩;unfold convert;simp only[Sem.run_bind,aH hE h1 w,aH hE h2 w,Result.andThen_ok];cases ds<;>rfl
 ·cases h
theorem Nm (hE:bu P E) {b:Builtin} {ts:Array TypeId} {args:List Value} {args':Array Value} {v:Value} (ty:TypeId) (cs:Array Bool) (h:pS E b ts.toList args=some v) (ha:ay μ args args'.toList):
 ∃v',au μ v v'∧fx P (builtin b ts ty cs args') (.value v'):=by
 obtain⟨ts⟩:=ts;obtain⟨args'⟩:=args';simp only at h ha;unfold pS at h;split at h
 ·rename_i t ts x xs;cases ha with
  |cons hx _=>
  simp only[Option.bind_eq_some_iff]at h;obtain⟨d,hd,h⟩:=h;split at h
  ·cases hx.ax rfl;simp only[Option.some.injEq]at h;subst h;exact⟨_,.int μ _ _,fun w=>by simp[builtin,Builtin.len_,aH hE hd w,goInt]⟩
  ·simp only[Option.some.injEq]at h;subst h;exact⟨_,.int μ _ _,fun w=>by simp[builtin,Builtin.len_,aH hE hd w,goInt]⟩
  ·simp only[Option.some.injEq]at h;subst h;cases hx with
   |lit hh=>
    rename_i a n c;have:∃q,a=none∧n=0∧c=0∧q=0:=by
     unfold aC at hh;split at hh<;>simp_all
    obtain⟨_,rfl,rfl,rfl,_⟩:=this;exact⟨_,.int μ _ _,fun w=>by simp[builtin,Builtin.len_,aH hE hd w,goInt]⟩
   |slice=>exact⟨_,.int μ _ _,fun w=>by simp[builtin,Builtin.len_,aH hE hd w,goInt]⟩
   |cP=>exact⟨_,.int μ _ _,fun w=>by simp[builtin,Builtin.len_,aH hE hd w,goInt]⟩
  ·simp only[Option.some.injEq]at h;subst h;cases hx;exact⟨_,.int μ _ _,fun w=>by simp[builtin,Builtin.len_,aH hE hd w,goInt]⟩
  ·cases h
 ·simp only[Option.some.injEq]at h;subst h;cases ha with
  |cons hx ha=>cases ha with
   |cons hy ha=>cases ha with
    |nil=>
     cases hx.ax rfl;cases hy.ax rfl;exact⟨_,.int μ _ _,fun w=>by simp[builtin,Builtin.max_,Builtin.max2]⟩
 ·simp only[Option.some.injEq]at h;subst h;cases ha with
  |cons hx ha=>cases ha with
   |cons hy ha=>cases ha with
    |nil=>
     cases hx.ax rfl;cases hy.ax rfl;exact⟨_,.int μ _ _,fun w=>by simp[builtin,Builtin.min_,Builtin.min2]⟩
 ·rename_i t ts;simp only[Option.bind_eq_some_iff]at h;obtain⟨d,hd,h⟩:=h;split at h
  ·simp only[Option.some.injEq]at h;subst h;cases ha with
   |cons hx ha=>cases ha with
    |nil=>
     cases hx with
     |lit hh=>exact⟨_,.int μ _ _,fun w=>by simp[builtin,Builtin.cap_,aH hE hd w,goInt]⟩
  ·cases h
 ·cases h
end
def gB (E:Env) (μ:bn):Prop:=∀g,E.dc g=true→∃m,μ g=some m∧m.r=g∧m.s=0
section
variable {P:Program} {E:Env} {μ:bn} {f:AF} {a:Act}
theorem a9 (hg:gB E μ) (hf:cY μ f a.tmps) {x:Operand} {v:Value} (h:ev E f x=some v):au μ v (a.eval x):=by
 cases x with
 |tmp t=>simp only[ev,Option.some.injEq]at h;subst h;exact hf.get t
 |const c=>simp only[ev,ai,Option.some.injEq]at h;obtain⟨h1,rfl⟩:=h;exact .cb μ h1
 |global g=>
  simp only[ev,ai,Option.some.injEq]at h;obtain⟨h1,rfl⟩:=h;obtain⟨m,h2,h3,h4⟩:=hg g h1;have:=au.ptr (o:=0) h2;rw[h3,h4]at this;exact this
 |func g=>simp only[ev,Option.some.injEq]at h;subst h;exact .func rfl (fun i v v' h=>by simp at h) rfl (fun i v v' h=>by simp at h)
theorem kq (hg:gB E μ) (hf:cY μ f a.tmps):∀{xs:List Operand} {vs:List Value},Gt E f xs=some vs→ay μ vs (xs.map a.eval)
 |[],vs,h=>by simp only[Gt,Option.some.injEq]at h;subst h;exact .nil
 |x::xs,vs,h=>by
  simp only[Gt,Option.bind_eq_some_iff,Option.some.injEq]at h;obtain⟨v,h1,l,h2,rfl⟩:=h;exact .cons (a9 hg hf h1) (kq hg hf h2)
theorem o9 (hg:gB E μ) (hf:cY μ f a.tmps):∀{xs:List (Nat×Operand)} {vs:List (Nat×Value)},iC E f xs=some vs→Y8 μ vs (xs.map fun p=>(p.1,a.eval p.2))
 |[],vs,h=>by simp only[iC,Option.some.injEq]at h;subst h;exact⟨rfl,fun k q h=>by simp at h⟩
 |(i,x)::xs,vs,h=>by
  simp only[iC,Option.bind_eq_some_iff,Option.some.injEq]at h;obtain⟨v,h1,l,h2,rfl⟩:=h;obtain⟨e1,e2⟩:=o9 hg hf h2;refine⟨by simpa using e1,fun k q hk=>?_⟩;cases k with
  |zero=>simp at hk;subst hk;exact⟨_,rfl,a9 hg hf h1⟩
  |succ k=>simp at hk;obtain⟨v',q1,q2⟩:=e2 k q hk;exact⟨v',by simpa using q1,q2⟩
theorem ue (hg:gB E μ) (hf:cY μ f a.tmps) {x:Option Operand} {v:Option Value} (h:oT E f x=some v):si μ v (x.map a.eval):=by
 cases x with
 |none=>simp only[oT,Option.some.injEq]at h;subst h;trivial
 |some x=>
  simp only[oT,Option.bind_eq_some_iff,Option.some.injEq]at h;obtain⟨u,h1,rfl⟩:=h;exact a9 hg hf h1
theorem kR {v:Value} {p:Nat×Nat} (h:jc v=some p):v= .pointer (some ⟨p.1,p.2,none⟩):=by
 unfold jc at h;split at h<;>simp at h;subst h;rfl
theorem DH {v:Value} {n:Int} (h:Q9 v=some n):∃k,v= .int k n:=by
 unfold Q9 at h;split at h<;>simp at h;subst h;exact⟨_,rfl⟩
theorem w6 {v:Value} {n:Bool} (h:Dl v=some n):v= .bool n:=by
 unfold Dl at h;split at h<;>simp at h;subst h;rfl
theorem No {v:Value} {n:List Value} (h:YY v=some n):∃cs:Array Value,v= .agg cs∧n=cs.toList:=by
 unfold YY at h;split at h<;>simp at h;subst h;exact⟨_,rfl,rfl⟩
theorem BQ {op:UnOp} {a v:Value} (h:eG (Op.unary op a)=some v) (ha:scalar a=true):scalar v=true:=by
 cases op<;>cases a<;>simp[scalar]at ha<;>simp only[Op.unary,Op.intArith,Op.intBits,eG,stuck,Pure.pure,Option.some.injEq]at h<;>first|(subst h;rfl)|cases h
theorem kS (hE:bu P E) {kt:TypeId} {kd:TypeDesc} (h:E.desc kt=some kd) (hs:iD kd=true) (e:Bool) (n:Nat) (k:Value):fx P (Instr.checkKey e (n+1) kt k) ():=by
 intro w;cases kd<;>simp[iD]at hs<;>simp[Instr.checkKey,aH hE h w]
set_option maxHeartbeats 1000000 in
theorem pV (hE:bu P E) (hg:gB E μ) (hf:cY μ f a.tmps) {o:Oper} {v:Value} (h:aM E f o=some v):∃v',au μ v v'∧fx P (execOp a.eval o) (.value v'):=by
 obtain⟨dst,op,type,pos,after,guard⟩:=o;cases op
 case move x=>simp only[aM]at h;exact⟨_,a9 hg hf h,fun w=>rfl⟩
 case assign x=>simp only[aM]at h;exact⟨_,a9 hg hf h,fun w=>rfl⟩
 case pick c x y=>
  simp only[aM,Option.bind_eq_some_iff]at h;obtain⟨cv,h1,b,h2,h3⟩:=h;have e:=w6 h2;subst e;have hc:=(a9 hg hf h1).ax rfl;cases b with
  |true=>exact⟨_,a9 hg hf h3,fun w=>by simp[execOp,hc,asBool]⟩
  |false=>exact⟨_,a9 hg hf h3,fun w=>by simp[execOp,hc,asBool]⟩
 case build t parts=>
  simp only[aM,Option.bind_eq_some_iff]at h;obtain⟨ps,h1,h2⟩:=h;obtain⟨v',q1,q2⟩:=Ra hE h2 (o9 hg hf h1);refine⟨v',q1,fun w=>?_⟩;have e:(parts.map fun(i,x)=>(i,a.eval x))=(parts.toList.map fun p=>(p.1,a.eval p.2)).toArray:=by
   apply Array.ext';simp
  simp only[execOp,Sem.run_bind];rw[e,q2 w];rfl
 case nilCheck x=>
  simp only[aM,Option.bind_eq_some_iff]at h;obtain⟨u,h1,h2⟩:=h;have hr:=a9 hg hf h1;generalize hq:a.eval x=q at hr;unfold mF at h2;split at h2
  ·simp only[Option.some.injEq]at h2;subst h2;cases hr with
   |lit hh=>simp[aC]at hh
   |ptr hb=>exact⟨_,.ptr hb,fun w=>by simp[execOp,hq]⟩
  ·simp only[Option.some.injEq]at h2;subst h2;cases hr with
   |lit hh=>simp[aC]at hh
   |func h1 h2 h3 h4=>exact⟨_,.func h1 h2 h3 h4,fun w=>by simp[execOp,hq]⟩
  ·simp only[Option.some.injEq]at h2;subst h2;cases hr with
   |lit hh=>simp[aC]at hh
   |yield hb=>exact⟨_,.yield hb,fun w=>by simp[execOp,hq]⟩
  ·cases h2
 case binOp op t x y yt=>
  simp only[aM,Option.bind_eq_some_iff]at h;obtain⟨u,h1,u2,h2,h3⟩:=h;obtain⟨v',q1,q2⟩:=Y9 hE h3 (a9 hg hf h1) (a9 hg hf h2);refine⟨v',q1,fun w=>?_⟩;simp only[execOp];rw[Sem.run_bind,q2 w];rfl
 case unOp op t x=>
  simp only[aM,Option.bind_eq_some_iff,ai]at h;obtain⟨u,h1,hs,h2⟩:=h;have e:=(a9 hg hf h1).ax hs;refine⟨v,.pU μ (BQ h2 hs),fun w=>?_⟩;simp only[execOp,Sem.run_bind,e,u4 (P:=P) h2 w,Result.andThen_ok,Sem.run_pure]
 case convert s d x=>
  simp only[aM,Option.bind_eq_some_iff]at h;obtain⟨u,h1,h2⟩:=h;obtain⟨v',q1,q2⟩:=VE hE h2 (a9 hg hf h1);refine⟨v',q1,fun w=>?_⟩;simp only[execOp,Sem.run_bind,q2 w,Result.andThen_ok,Sem.run_pure]
 case makeInterface t x=>
  simp only[aM,Option.bind_eq_some_iff]at h;obtain⟨d,hd,u,h1,h2⟩:=h;refine⟨.iface t (a.eval x),?_,fun w=>?_⟩
  ·split at h2
   ·cases h2
   ·simp only[Option.some.injEq]at h2;subst h2;exact .iface (a9 hg hf h1)
  ·simp only[execOp,Sem.run_bind,Instr.makeInterface,aH hE hd w,Result.andThen_ok];split at h2
   ·cases h2
   ·cases d<;>first|rfl |(exfalso;simp at*)
 case makeFunc fn first captured=>
  simp only[aM]at h;split at h
  ·simp only[Option.bind_eq_some_iff,Option.some.injEq]at h;obtain⟨x,h1,y,h2,rfl⟩:=h;have r1:=kq hg hf h1;have r2:=kq hg hf h2;refine⟨.func (.func _) (first.map a.eval) (captured.map a.eval),.func ?_ ?_ ?_ ?_,fun w=>?_⟩
   ·have:=r1.length;simpa using this
   ·intro i u u' hu QL;obtain⟨u2,k1,k2⟩:=r1.get (i:=i) (v:=u) (by simpa using hu);have:u'=u2:=by
     simp only[Array.getElem?_map]at QL;simp only[List.getElem?_map,Array.getElem?_toList]at k1;rw[QL]at k1;exact Option.some.inj k1
    subst this;exact k2
   ·have:=r2.length;simpa using this
   ·intro i u u' hu QL;obtain⟨u2,k1,k2⟩:=r2.get (i:=i) (v:=u) (by simpa using hu);have:u'=u2:=by
     simp only[Array.getElem?_map]at QL;simp only[List.getElem?_map,Array.getElem?_toList]at k1;rw[QL]at k1;exact Option.some.inj k1
    subst this;exact k2
   ·simp[execOp,Instr.makeFunc]
  ·cases h
 case slice t x lo hi mx=>
  simp only[aM,Option.bind_eq_some_iff]at h;obtain⟨u,h1,l,h2,hh,h3,m,h4,h5⟩:=h;obtain⟨v',q1,q2⟩:=Kg hE h5 (a9 hg hf h1) (ue hg hf h2) (ue hg hf h3) (ue hg hf h4);refine⟨v',q1,fun w=>?_⟩;simp only[execOp,Sem.run_bind,q2 w,Result.andThen_ok,Sem.run_pure]
 case fieldAddr s x fd=>
  simp only[aM,Option.bind_eq_some_iff]at h;obtain⟨d,hd,u,h1,p,h2,h3⟩:=h;have e:=kR h2;subst e;obtain⟨m,hb,ex⟩:=(a9 hg hf h1).kl;split at h3
  ·simp only[Option.bind_eq_some_iff,ai,aS,Option.some.injEq]at h3;obtain⟨fl,h4,n,h5,h6,rfl⟩:=h3;refine⟨.pointer (some ⟨m.r,m.s+(p.2+fl.offset),none⟩),.ptr hb,fun w=>?_⟩;have hn:n≠0:=by omega
   simp[execOp,Instr.fieldAt,aH hE hd w,h4,ex,Instr.sureAddr,fieldPlace,fR hE h5 w,hn,gM,Nat.add_assoc]
  ·cases h3
 case field t x fd=>
  simp only[aM,Option.bind_eq_some_iff]at h;obtain⟨d,hd,u,h1,cs,h2,h3⟩:=h;obtain⟨ca,e,rfl⟩:=No h2;subst e;obtain⟨cs',ex,hr⟩:=(a9 hg hf h1).fo;split at h3
  ·simp only[Option.bind_eq_some_iff]at h3;obtain⟨fl,h4,h5⟩:=h3;obtain⟨v',q1,q2⟩:=BM hE (μ:=μ) h5 hr;have e:cs'.toList.toArray=cs':=by simp
   rw[e]at q2;refine⟨v',q1,fun w=>?_⟩;simp only[execOp,Instr.field,Sem.run_bind,aH hE hd w,Result.andThen_ok,h4,ex,asAgg,Sem.run_pure,q2 w]
  ·cases h3
 case indexAddr t x ix=>
  simp only[aM,Option.bind_eq_some_iff]at h;obtain⟨u,h1,u2,h2,h3⟩:=h;obtain⟨v',q1,q2⟩:=DG hE h3 (a9 hg hf h1) (a9 hg hf h2);refine⟨v',q1,fun w=>?_⟩;simp only[execOp,Sem.run_bind,q2 w,Result.andThen_ok,Sem.run_pure]
 case index t x ix=>
  simp only[aM,Option.bind_eq_some_iff]at h;obtain⟨u,h1,u2,h2,h3⟩:=h;obtain⟨v',q1,q2⟩:=Rc hE h3 (a9 hg hf h1) (a9 hg hf h2);refine⟨v',q1,fun w=>?_⟩;simp only[execOp,Sem.run_bind,q2 w,Result.andThen_ok,Sem.run_pure]
 case extract t ix=>
  simp only[aM,Option.bind_eq_some_iff]at h;obtain⟨u,h1,h2⟩:=h;split at h2
  ·obtain⟨nB,ex,hr⟩:=(a9 hg hf h1).Kd;obtain⟨v',k1,k2⟩:=hr.get h2;refine⟨v',k2,fun w=>?_⟩;have k1':nB[ix]? =some v':=by simpa using k1
   simp[execOp,Instr.extract,ex,k1']
  ·cases h2
 case lookup t x ix ok=>
  simp only[aM,Option.bind_eq_some_iff]at h;obtain⟨d,hd,m,h1,k,h2,h3⟩:=h;split at h3
  ·rename_i kt elem;simp only[Option.bind_eq_some_iff,ai,Bool.and_eq_true,Option.some.injEq]at h3;obtain⟨kd,iH,z,hz,⟨⟨s1,s2⟩,s3⟩,rfl⟩:=h3;have e1:a.eval x= .map none:=by
    have:=a9 hg hf h1;generalize a.eval x=q at this;cases this;rfl
   have e2:=(a9 hg hf h2).ax s2;have acx:∀w,(Instr.checkKey true 10000 kt k).run P w= .ok () w:=fun w=>kS hE iH s1 true 9999 k w;have Kh:∀w,(Instr.findKey kt k []).run P w= .ok none w:=by
    intro w;simp[Instr.findKey,aH hE iH w,Instr.findNow]
   refine⟨(if ok then .tuple #[z,.bool false]else z),?_,fun w=>?_⟩
   ·have rk:=au.cb μ s3;cases ok with
    |true=>simp only[cond_true,if_true];exact .dC (by simpa using ay.cons rk (.cons (.bool μ false) .nil))
    |false=>simpa using rk
   ·simp[execOp,Instr.lookup,aH hE hd w,e1,e2,acx w,Kh w,j6 hE hz w]
  ·cases h3
 case call c=>
  simp only[aM]at h;split at h
  ·rename_i b hb;simp only[Option.bind_eq_some_iff]at h;obtain⟨args,h1,h2⟩:=h;have hr:=kq hg hf h1;obtain⟨v',q1,q2⟩:=Nm hE (ts:=c.argTypes) (args':=c.args.map a.eval) type (c.args.map fun | .const _=>true|_=>false) h2 (by simpa using hr);refine⟨v',q1,fun w=>?_⟩;simp only[execOp,resolve,hb,Sem.run_bind,Sem.run_pure,Result.andThen_ok,invoke];exact q2 w
  ·cases h
 all_goals(simp only[aM]at h;cases h)
end
theorem dh (z:List Value):∀n,(aT z n).length=n*z.length
 |0=>by simp[aT]
 |n+1=>by simp[aT,dh z n,Nat.add_mul];omega
theorem u6 (z:List Value):∀(n i:Nat),i<n*z.length→(aT z n)[i]? =z[i % z.length]?
 |0,i,h=>by simp at h
 |n+1,i,h=>by
  simp only[aT];by_cases hi:i<z.length
  ·rw[List.getElem?_append_left hi,Nat.mod_eq_of_lt hi]
  ·rw[List.getElem?_append_right om,u6 z n (i - z.length) (by rw[Nat.add_mul]at h;omega)]
   congr 1
   rw[←Nat.mod_eq_sub_mod om]
theorem ay.aT {μ:bn} {z:List Value} (h:ay μ z z):∀n,ay μ (aT z n) (aT z n)
 |0=>.nil
 |n+1=>h.append (h.aT n)
theorem sj (z:Array Value) (n:Nat) (hz:0<z.size):((Array.range (n*z.size)).map (z[· % z.size]!)).toList=aT z.toList n:=by
 apply List.ext_getElem?;intro i;by_cases hi:i<n*z.size
 ·rw[u6 z.toList n i (by simpa using hi)];have hm:i % z.size<z.size:=Nat.mod_lt _ hz;simp[hi,hm]
 ·have h1:(aT z.toList n)[i]? =none:=by
   rw[List.getElem?_eq_none_iff,dh];simpa using hi
  rw[h1];simp;omega
section
variable {P:Program} {E:Env} {μ:bn} {f:AF} {a:Act}
structure Np (P:Program) (μ:bn) (s:Sem Next) (md:Made) (hd:qT) (o':Obj) (n:Nat) (hv:Nat→Value):Prop where
 run:∀w:World,s.run P w= .ok (.value (hv w.heap.size)) {w with heap:=w.heap.push o'}
 val:∀(aU:bn) b r,aU b=some ⟨r,0,n⟩→au aU (hd.val b) (hv r)
 obj:∀(aU:bn) h base b r,μ.le aU→iX aU h base b ⟨r,0,n⟩ (md.obj b) o'
theorem mJ {cs cs':List Value} (hr:ay μ cs cs') (e:TypeId) (aU:bn) (h:ab) (base b r:Nat) (hle:μ.le aU) (f cA aQ:Nat) (rest:Array Value) (c:Array Value) (hc:c.toList=cs'++rest.toList):
 iX aU h base b ⟨r,0,c.size⟩ (.cells cs f cA aQ) (.cells c e (0,0)):=by
 have hl:=hr.length;have hs:c.size=cs'.length+rest.size:=by
  have:=congrArg List.length hc;simpa using this
 refine .cells rfl (by simp only;omega) (fun _=>Ua _) fun _ i v hv=>?_;obtain⟨v',h1,h2⟩:=hr.get hv;refine⟨v',?_,h2.mono hle⟩;have hi:=(List.getElem?_eq_some_iff.1 h1).1;rw[←Array.getElem?_toList,hc,Nat.zero_add,List.getElem?_append_left hi];exact h1
theorem nC (hE:bu P E) (hg:gB E μ) (hf:cY μ f a.tmps) {o:Oper} {md:Made} {hd:qT} (h:bf E f o=some (md,hd)):
 ∃o' n hv,Np P μ (execOp a.eval o) md hd o' n hv:=by
 obtain⟨dst,op,type,pos,after,guard⟩:=o;cases op
 case alloc t=>
  simp only[bf,Option.bind_eq_some_iff,Option.some.injEq,Prod.mk.injEq]at h;obtain⟨z,hz,rfl,rfl⟩:=h;have rk:=(au.cb μ (hE.zero t z hz).2).cells;refine⟨.cells z.cells t (0,0),z.cells.size,fun r=>.pointer (some ⟨r,0,none⟩),fun w=>?_,fun aU b r hb=>?_,fun aU h base b r hle=>?_⟩
  ·simp[execOp,Instr.alloc,j6 hE hz w,newVar,newRow]
  ·have:=au.ptr (o:=0) hb;simpa[qT.val]using this
  ·exact mJ rk t aU h base b r hle _ _ _ #[] z.cells (by simp)
 case box t x=>
  simp only[bf,Option.bind_eq_some_iff,Option.some.injEq,Prod.mk.injEq]at h;obtain⟨v,hv,rfl,rfl⟩:=h;have hr:=(a9 hg hf hv).cells;refine⟨.cells (a.eval x).cells t (0,0),(a.eval x).cells.size,fun r=>.pointer (some ⟨r,0,none⟩),fun w=>?_,fun aU b r hb=>?_,fun aU h base b r hle=>?_⟩
  ·simp[execOp,Instr.box,newVar,newRow]
  ·have:=au.ptr (o:=0) hb;simpa[qT.val]using this
  ·exact mJ hr t aU h base b r hle _ _ _ #[] _ (by simp)
 case buildSlice t len parts=>
  simp only[bf,Option.bind_eq_some_iff]at h;obtain⟨d,Ge,ps,h1,h2⟩:=h;split at h2
  ·rename_i elem;simp only[Option.bind_eq_some_iff,ai,Bool.and_eq_true,aG,beq_iff,Option.some.injEq,Prod.mk.injEq]at h2;obtain⟨n,hn,z,hz,⟨hk,jy⟩,cs,h3,rfl,rfl⟩:=h2;have hp:=o9 hg hf h1;have rk:=(au.cb μ (hE.zero elem z hz).2).cells
   let fT:Array Value:=(aT z.cells.toList len).toArray
   obtain⟨cs',q1,q2⟩:=sf (μ:=μ) (place':=fun i=>some (i*n,n)) (fun _ _ h=>h) (cells':=fT) (ps':=parts.toList.map fun p=>(p.1,a.eval p.2)) h3 (by simpa[fT]using rk.aT len) hp.1 hp.2;have fL:cs.length=len*n:=by
    have:∀{ps:List (Nat×Value)} {c r:List Value},ka (fun i=>some (i*n,n)) c ps=some r→r.length=c.length:=by
     intro ps
     induction ps with
     |nil=>intro c r h;simp only[ka,Option.some.injEq]at h;subst h;rfl
     |cons p ps ih=>
      intro c r h;simp only[ka,Option.bind_eq_some_iff,ai]at h;obtain⟨q,_,_,c1,h4,h5⟩:=h;rw[ih h5,(dv h4).2.1]
    rw[this h3,dh];simp[jy]
   refine⟨.cells cs' elem (0,0),cs'.size,fun r=>.slice (some ⟨r,0,none⟩) len len,fun w=>?_,fun aU b r hb=>?_,fun aU h base b r hle=>?_⟩
   ·have e:(parts.map fun(i,x)=>(i,a.eval x))=(parts.toList.map fun p=>(p.1,a.eval p.2)).toArray:=by
     apply Array.ext';simp
    have VF:len*n=0→∀g:Nat→Value,(Array.range (len*n)).map g=fT:=by
     intro h0 g;apply Array.ext';have:(aT z.cells.toList len)=[]:=by
      apply List.eq_nil_of_length_eq_zero;rw[dh];simpa[jy]using h0
     simp[h0,fT,this]
    have VG:len*n≠0→(Array.range (len*n)).map (z.cells[· % z.cells.size]!)=fT:=by
     intro h0;apply Array.ext';have sk:0<z.cells.size:=by
      rw[jy];exact Nat.pos_of_ne_zero fun e=>h0 (by rw[e];simp)
     have:=sj z.cells len sk;rw[jy]at this;simp only[fT];rw[←this,jy]
    unfold execOp;simp only[Sem.run_bind,Instr.buildSlice,aH hE Ge w,Result.andThen_ok,fR hE hn w];rw[if_neg om];by_cases h0:len*n=0
    ·rw[if_pos h0];simp only[Sem.run_bind,Sem.run_pure,Result.andThen_ok];rw[VF h0,e,q1];rfl
    ·rw[if_neg h0];simp only[Sem.run_bind,Sem.run_pure,Result.andThen_ok,j6 hE hz w];rw[VG h0,e,q1];rfl
   ·have:=au.slice (o:=0) (z:=n) hb (Nat.le_refl len) (Nat.le_refl len) (fun h=>h) (by simp only;have:=q2.length;simp at this;omega);simpa[qT.val]using this
   ·exact mJ q2 elem aU h base b r hle _ _ _ #[] cs' (by simp)
  ·cases h2
 case makeMap t r=>
  cases r with
  |none=>
   simp only[bf,Option.some.injEq,Prod.mk.injEq]at h;obtain⟨rfl,rfl⟩:=h;refine⟨.map #[] 0,0,fun r=>.map (some r),fun w=>?_,fun aU b r hb=>?_,fun aU h base b r hle=>?_⟩
   ·simp[execOp,Instr.makeMap]
   ·exact .map hb
   ·exact .map (by simpa using cB.nil)
  |some r=>simp only[bf]at h;cases h
 case makeSlice t l c=>
  simp only[bf,Option.bind_eq_some_iff]at h;obtain⟨d,Ge,lv,h1,cv,h2,l1,h3,c1,h4,h5⟩:=h;obtain⟨k1,e1⟩:=DH h3;subst e1;obtain⟨k2,e2⟩:=DH h4;subst e2;have el:=(a9 hg hf h1).ax rfl;have ec:=(a9 hg hf h2).ax rfl;split at h5
  ·rename_i elem;simp only[Option.bind_eq_some_iff,ai,Bool.and_eq_true,beq_iff,decide_eq_true_eq,Option.some.injEq,Prod.mk.injEq]at h5;obtain⟨n,hn,bytes,hb,z,hz,⟨⟨⟨jy,qE⟩,IM⟩,lH⟩,rfl,rfl⟩:=h5;obtain⟨ti,Uh,QM⟩:=BL hE hb;have rk:=(au.cb μ (hE.zero elem z hz).2).cells;obtain⟨ln,rfl⟩:=Int.eq_ofNat_of_zero_le qE;obtain⟨cn,rfl⟩:=Int.eq_ofNat_of_zero_le (show 0≤c1 by omega);have acy:ln≤cn:=by omega
   have acz:(cn+1)*(bytes+1)≤1099511627776:=by
    have:(((cn+1)*(bytes+1):Nat):Int)≤1099511627776:=by push_cast;exact lH
    omega
   have Re:cn+1≤1099511627776:=Nat.le_trans (Nat.le_mul_of_pos_right _ om) acz;have Y5:bytes*cn≤1099511627776:=by
    have:bytes*cn≤(cn+1)*(bytes+1):=by rw[Nat.mul_comm];exact Nat.mul_le_mul om om
    omega
   let fT:Array Value:=(aT z.cells.toList cn).toArray
   refine⟨.cells fT elem (0,0),fT.size,fun r=>.slice (some ⟨r,0,none⟩) ln cn,fun w=>?_,fun aU b r hb=>?_,fun aU h base b r hle=>?_⟩
   ·have wl:IntKind.i64.wrap (ln:Int)=ln:=IntWalk.i64_in _ om;have wc:IntKind.i64.wrap (cn:Int)=cn:=IntWalk.i64_in _ om;have nt:(decide ((cn:Int)<0)||decide ((ti.bytes:Int)*(cn:Int)>2 ^ 48))=false:=by
     rw[Uh];have:((bytes*cn:Nat):Int)≤1099511627776:=by omega
     simp only[Bool.or_eq_false_iff,decide_eq_false_iff_not];refine⟨om,?_⟩;have e:(2:Int) ^ 48=281474976710656:=by decide
     rw[e]
     push_cast at this
     omega
    have VF:cn*n=0→∀g:Nat→Value,(Array.range (cn*n)).map g=fT:=by
     intro h0 g;apply Array.ext';have:(aT z.cells.toList cn)=[]:=by
      apply List.eq_nil_of_length_eq_zero;rw[dh];simpa[jy]using h0
     simp[h0,fT,this]
    have VG:cn*n≠0→(Array.range (cn*n)).map (z.cells[· % z.cells.size]!)=fT:=by
     intro h0;apply Array.ext';have sk:0<z.cells.size:=by
      rw[jy];exact Nat.pos_of_ne_zero fun e=>h0 (by rw[e];simp)
     have:=sj z.cells cn sk;rw[jy]at this;simp only[fT];rw[←this,jy]
    unfold execOp;simp only[Sem.run_bind,Instr.makeSlice,aH hE Ge w,Result.andThen_ok,el,ec,asInt,asIntOf,Sem.run_pure,QM w,wl,wc,nt];rw[if_neg (by simp;omega)];simp only[Sem.run_bind,run_askRoom,Result.andThen_ok,fR hE hn w,Int.toNat_natCast];by_cases h0:cn*n=0
    ·rw[if_pos h0];simp only[Sem.run_bind,Sem.run_pure,Result.andThen_ok];rw[VF h0];rfl
    ·rw[if_neg h0];simp only[Sem.run_bind,Sem.run_pure,Result.andThen_ok,j6 hE hz w];rw[VG h0];rfl
   ·have o7:fT.size=cn*n:=by simp[fT,dh,jy]
    by_cases e:ln=cn
    ·subst e;have:=au.slice (o:=0) (z:=n) hb (Nat.le_refl ln) (Nat.le_refl ln) (fun h=>h) (by simp only;omega);simpa[qT.val]using this
    ·have:=au.slice (o:=0) (z:=n) (len:=ln) (cap:=ln+1) (cap':=cn) hb om acy (fun h=>by omega) (by simp only;omega);simpa[qT.val,e,bY]using this
   ·have VH:aT z.cells.toList cn=aT z.cells.toList ln++aT z.cells.toList (cn - ln):=by
     have:∀a b,aT z.cells.toList (a+b)=aT z.cells.toList a++aT z.cells.toList b:=by
      intro a b
      induction a with
      |zero=>simp[M.aT]
      |succ a ih=>rw[Nat.succ_add];simp[M.aT,ih]
     rw[←this];congr 1;omega
    exact mJ (rk.aT ln) elem aU h base b r hle _ _ _ (aT z.cells.toList (cn - ln)).toArray fT (by simp[fT,VH])
  ·cases h5
 case range t x=>
  simp only[bf,Option.bind_eq_some_iff]at h;obtain⟨d,Ge,v,h1,h2⟩:=h;split at h2
  ·rename_i s;simp only[Option.some.injEq,Prod.mk.injEq]at h2;obtain⟨rfl,rfl⟩:=h2;have ex:=(a9 hg hf h1).ax rfl;refine⟨.stringIter s 0,0,fun r=>.pointer (some ⟨r,0,none⟩),fun w=>?_,fun aU b r hb=>?_,fun aU h base b r hle=>.jb rfl⟩
   ·simp[execOp,Instr.range,aH hE Ge w,ex]
   ·have:=au.ptr (o:=0) hb;simpa[qT.val]using this
  ·simp only[Option.some.injEq,Prod.mk.injEq]at h2;obtain⟨rfl,rfl⟩:=h2;have ex:a.eval x= .map none:=by
    have:=a9 hg hf h1;generalize a.eval x=q at this;cases this;rfl
   refine⟨.mapIter none 0 #[] 0,0,fun r=>.pointer (some ⟨r,0,none⟩),fun w=>?_,fun aU b r hb=>?_,fun aU h base b r hle=>.l4 rfl⟩
   ·simp[execOp,Instr.range,aH hE Ge w,ex]
   ·have:=au.ptr (o:=0) hb;simpa[qT.val]using this
  ·cases h2
 all_goals(simp only[bf]at h;cases h)
end
theorem run_getObj_map {P:Program} {w:World} {r:Nat} {o:Obj} (h:w.heap[r]? =some o) (ho:∀c e f,o≠ .cells c e f):(getObj r).run P w= .ok o w:=by
 unfold getObj;simp only[Sem.run,h]
theorem jI {μ:bn} {kd:TypeDesc} {k:Value}:∀{es bS:List MapEntry} {i:Nat} {r:Option (Nat×Value)},cB μ es bS→Instr.findNow kd k es i=some r→
 ∃r',Instr.findNow kd k bS i=some r'∧(r=none→r'=none)∧(∀j v,r=some (j,v)→∃v',r'=some (j,v')∧au μ v v')
 |[],bS,i,r,h,hr=>by
  cases h with
  |nil=>simp only[Instr.findNow,Option.some.injEq]at hr;subst hr;exact⟨none,rfl,fun _=>rfl,fun j v h=>by cases h⟩
 |e::es,bS,i,r,h,hr=>by
  cases h with
  |cons hk hv hb t=>
   rename_i e' bS;have hs:∀b,Instr.sameNow kd k e.key=some b→e'.key=e.key:=by
    intro b hs;have:scalar e.key=true:=by
     unfold Instr.sameNow at hs;split at hs
     ·rename_i h2;rw[h2];rfl
     ·rename_i h2;rw[h2];rfl
     ·rename_i h2;rw[h2];rfl
     ·cases hs
    exact hk.ax this
   simp only[Instr.findNow]at hr ⊢;split at hr
   ·rename_i hq;rw[hs _ hq,hq];simp only[Option.some.injEq]at hr;subst hr;exact⟨_,rfl,(fun h=>by cases h),fun j v h=>(by cases h;exact⟨_,rfl,hv⟩)⟩
   ·rename_i hq;rw[hs _ hq,hq];exact jI t hr
   ·cases hr
theorem run_loadCells {P:Program} {w:World} {a:Addr}:∀(n i:Nat) (acc:Array Value) (l:List Value),l.length=n→(∀(k:Nat) v,l[k]? =some v→w.cell? (a.add (i+k))=some v)→(loadCellsFrom a i n acc).run P w= .ok (acc++l.toArray) w
 |0,i,acc,l,h,_=>by
  have:l=[]:=List.eq_nil_of_length_eq_zero h;subst this;simp[loadCellsFrom]
 |n+1,i,acc,[],h,_=>by simp at h
 |n+1,i,acc,v::l,h,hc=>by
  have h0:=hc 0 v rfl;have ih:=run_loadCells (P:=P) n (i+1) (acc.push v) l (by simpa using h) (fun k u hu=>by have:=hc (k+1) u (by simpa using hu);rw[←this];congr 2;omega);simp only[Nat.add_zero]at h0;simp only[loadCellsFrom,Sem.run_bind,run_load,h0,Result.andThen_ok,ih];simp
section
variable {P:Program} {E:Env} {μ:bn} {f:AF} {a:Act} {base B:Nat} {h:ab} {w:World}
theorem bh.z9 (H:bh E base B μ h w) {b o n:Nat} {m:MT} (hb:μ b=some m) {l:List Value} (hr:M.ae h b o n=some l):
 ∃l',ay μ l l'∧∀(i:Nat) v,l'[i]? =some v→w.cell? ⟨m.r,m.s+o+i,none⟩=some v:=by
 obtain⟨h1,h2⟩:=H.ae hb hr;have key:∀(l:List Value) (k:Nat),(∀(i:Nat) v,l[i]? =some v→∃v',w.cell? ⟨m.r,m.s+o+k+i,none⟩=some v'∧au μ v v')→∃l',ay μ l l'∧∀(i:Nat) v,l'[i]? =some v→w.cell? ⟨m.r,m.s+o+k+i,none⟩=some v:=by
  intro l
  induction l with
  |nil=>intro k _;exact⟨[],.nil,fun i v h=>by simp at h⟩
  |cons v l ih=>
   intro k hl;obtain⟨v',q1,q2⟩:=hl 0 v rfl;obtain⟨l',r1,r2⟩:=ih (k+1) fun i u hu=>by
    obtain⟨u',k1,k2⟩:=hl (i+1) u (by simpa using hu);exact⟨u',by rw[←k1];congr 2;omega,k2⟩
   refine⟨v'::l',.cons q2 r1,fun i u hu=>?_⟩;cases i with
   |zero=>simp at hu;subst hu;simpa using q1
   |succ i=>
    simp at hu;rw[←r2 i u hu];congr 2;omega
 obtain⟨l',r1,r2⟩:=key l 0 (by simpa using h2);exact⟨l',r1,by simpa using r2⟩
theorem pa (hE:bu P E) {t:TypeId} {agg:Bool} {n:Nat} (hs:eQ E t=some (agg,n)) {r o:Nat} {l':List Value} (hl:l'.length=n) (hc:∀(i:Nat) v,l'[i]? =some v→w.cell? ⟨r,o+i,none⟩=some v) {v':Value}
 (hv:cG agg l'=some v'):(loadVar t ⟨r,o,none⟩).run P w= .ok v' w:=by
 obtain⟨d,k1,k2,k3,k4⟩:=uZ hs;unfold loadVar;simp only[Sem.run_bind,IK hE k1 w,Result.andThen_ok,k2];cases agg with
 |true=>
  simp only[cG,Option.some.injEq]at hv;subst hv;simp only[if_true,Sem.run_bind,fR hE (k3 rfl) w,Result.andThen_ok,loadCells];rw[run_loadCells n 0 #[] l' hl (fun k v hv=>by rw[gM];simpa using hc k v hv)];simp
 |false=>
  have:=k4 rfl;subst this
  match l',hl with
  |[u],_=>
   simp only[cG,Option.some.injEq]at hv;subst hv;have:=hc 0 u rfl;simp only[Nat.add_zero]at this;simp[this]
theorem uf (hE:bu P E) (hf:cY μ f a.tmps) (H:bh E base B μ h w) {o:Oper} {q:RQ} {v:Value} (hq:bL E f o=some q) (hv:q.run h=some v):
 ∃v',au μ v v'∧(execOp a.eval o).run P w= .ok (.value v') w:=by
 have hg:gB E μ:=H.dc;obtain⟨dst,op,type,pos,after,guard⟩:=o;cases op
 case load t x=>
  simp only[bL,Option.bind_eq_some_iff,Option.some.injEq]at hq;obtain⟨u,h1,p,h2,⟨agg,n⟩,h3,rfl⟩:=hq;have e:=kR h2;subst e;obtain⟨m,hb,ex⟩:=(a9 hg hf h1).kl;simp only[RQ.run,Option.bind_eq_some_iff]at hv;obtain⟨l,h4,h5⟩:=hv;obtain⟨l',r1,r2⟩:=H.z9 hb h4;obtain⟨v',q1,q2⟩:=jx h5 r1;refine⟨v',q2,?_⟩;have hl:l'.length=n:=by rw[←r1.length];exact(H.ae hb h4).1
  simp only[execOp,Instr.loadAt,Sem.run_bind,ex,Instr.sureAddr,Sem.run_pure,Result.andThen_ok];rw[pa hE h3 hl r2 q1];rfl
 case lookup t x ix ok=>
  simp only[bL,Option.bind_eq_some_iff]at hq;obtain⟨d,hd,mv,h1,k,h2,h3⟩:=hq;split at h3
  ·rename_i kt elem r;simp only[Option.bind_eq_some_iff,ai,Bool.and_eq_true,Option.some.injEq]at h3;obtain⟨kd,iH,z,hz,⟨⟨s1,s2⟩,s3⟩,rfl⟩:=h3;obtain⟨m,hb,ex⟩:=(a9 hg hf h1).lF;have ek:=(a9 hg hf h2).ax s2;simp only[RQ.run,Option.bind_eq_some_iff]at hv;obtain⟨⟨es,clock⟩,h4,h5⟩:=hv;obtain⟨o1,o2,k1,k2,k3⟩:=H.obj r m hb;have hm:h.get r=some (.map es clock):=by
    unfold eR at h4;split at h4<;>simp at h4;obtain⟨rfl,rfl⟩:=h4;assumption
   rw[hm]at k1;cases k1;cases k3 with
   |map hs=>
    rename_i bS;have pW:=run_getObj_map (P:=P) k2 (fun _ _ _=>by simp);simp only[j4,Option.bind_eq_some_iff,Option.some.injEq]at h5;obtain⟨fr,h6,h7⟩:=h5;obtain⟨MR,q1,q2,q3⟩:=jI hs h6;have rk:=au.cb μ s3;have Kh:(Instr.findKey kt k bS.toList).run P w= .ok MR w:=by
     simp only[Instr.findKey,Sem.run_bind,aH hE iH w,Result.andThen_ok,q1,Sem.run_pure]
    have kr:=kS (P:=P) hE iH s1 bS.isEmpty 9999 k w;have fin:∀(u u':Value) (b:Bool),au μ u u'→au μ (bif ok then .tuple #[u,.bool b]else u) (if ok=true then .tuple #[u',.bool b]else u'):=by
     intro u u' b hu;cases ok with
     |true=>simp only[cond_true,if_true];exact .dC (by simpa using ay.cons hu (.cons (.bool μ b) .nil))
     |false=>simpa using hu
    cases fr with
    |none=>
     have e:=q2 rfl;subst e;simp only at h7;subst h7;refine⟨_,fin z z false rk,?_⟩;simp only[execOp,Instr.lookup,Sem.run_bind,aH hE hd w,Result.andThen_ok,ex,ek,pW,Sem.run_pure,kr,Kh,j6 hE hz w]
    |some jv=>
     obtain⟨v',e,hr⟩:=q3 jv.1 jv.2 rfl;subst e;simp only at h7;subst h7;refine⟨_,fin jv.2 v' true hr,?_⟩;simp only[execOp,Instr.lookup,Sem.run_bind,aH hE hd w,Result.andThen_ok,ex,ek,pW,Sem.run_pure,kr,Kh]
  ·cases h3
 case call c=>
  simp only[bL]at hq;split at hq
  ·rename_i t ts BR VJ;simp only[Option.bind_eq_some_iff]at hq;obtain⟨d,hd,args,h1,h2⟩:=hq;split at h2
   ·rename_i kt et r rest;simp only[Option.some.injEq]at h2;subst h2;have hr:=kq hg hf h1;cases kQ:c.args.toList.map a.eval with
    |nil=>rw[kQ]at hr;cases hr
    |cons u us=>
     rw[kQ]at hr;cases hr with
     |cons hx _=>
      obtain⟨m,hb,rfl⟩:=hx.lF;simp only[RQ.run,Option.bind_eq_some_iff,Option.some.injEq]at hv;obtain⟨⟨es,clock⟩,h4,rfl⟩:=hv;obtain⟨o1,o2,k1,k2,k3⟩:=H.obj r m hb;have hm:h.get r=some (.map es clock):=by
       unfold eR at h4;split at h4<;>simp at h4;obtain⟨rfl,rfl⟩:=h4;assumption
      rw[hm]at k1;cases k1;cases k3 with
      |map hs=>
       rename_i bS;have pW:=run_getObj_map (P:=P) k2 (fun _ _ _=>by simp);have e0:(c.args.map a.eval)[0]? =some (.map (some m.r)):=by
        have:(c.args.map a.eval).toList= .map (some m.r)::us:=by simpa using kQ
        rw[←Array.getElem?_toList,this];rfl
       have e1:c.argTypes[0]? =some t:=by rw[←Array.getElem?_toList,VJ];rfl
       refine⟨goInt bS.size,?_,?_⟩
       ·have:=hs.length;simp only[Array.length_toList]at this;rw[this];exact .int μ _ _
       ·simp only[execOp,resolve,BR,Sem.run_bind,Sem.run_pure,Result.andThen_ok,invoke,builtin,Builtin.len_,e0,e1,aH hE hd w,pW]
   ·cases h2
  ·cases hq
 all_goals(simp only[bL]at hq;cases hq)
end
theorem nD {v:Value} (h:dY v=true):v.oneCell'=true:=by cases v<;>simp[dY]at h<;>rfl
theorem iI {P:Program} {r off:Nat} {e:TypeId} {fr:Nat×Nat}:∀(vs:List Value) (i:Nat) (w:World) (c:Array Value),mH fr c.size→w.heap[r]? =some (.cells c e fr)→vs.all dY=true→off+i+vs.length≤c.size→
 ∃w' c',(storeCells ⟨r,off,none⟩ vs i).run P w= .ok () w'∧z8 w r (.cells c' e fr) w'∧c'.size=c.size∧∀k,c'[k]? =if off+i≤k∧k<off+i+vs.length then vs[k - (off+i)]? else c[k]?
 |[],i,w,c,_,hw,_,_=>by
  refine⟨w,c,by simp[storeCells],⟨rfl,rfl,rfl,rfl,fun k=>?_⟩,rfl,fun k=>?_⟩
  ·by_cases e:k=r
   ·subst e;rw[if_pos rfl,hw]
   ·rw[if_neg e]
  ·rw[if_neg (by simp)]
 |v::vs,i,w,c,QN,hw,iu,hb=>by
  simp only[List.all_cons,Bool.and_eq_true]at iu;simp only[List.length_cons]at hb;have DI:w.cell? ⟨r,off+i,none⟩=some (c[off+i]' om):=by
   simp only[World.cell?,hw];simp
  have Aa:w.frozen? ⟨r,off+i,none⟩=false:=by
   have:=QN.at (off+i) om;simp only[World.frozen?,hw];simpa using this
  let w1:=w.setCell ⟨r,off+i,none⟩ v
  have dK:∀k,w1.heap[k]? =if k=r then some (.cells (c.setIfInBounds (off+i) v) e fr)else w.heap[k]? :=by
   intro k;simp only[w1,World.setCell,Array.getElem?_modify];by_cases ek:k=r
   ·subst ek;rw[if_pos rfl,if_pos rfl,hw];simp
   ·rw[if_neg (fun h=>ek h.symm),if_neg ek]
  obtain⟨w',c',q1,q2,q3,q4⟩:=iI (P:=P) (off:=off) vs (i+1) w1 (c.setIfInBounds (off+i) v) (by simpa using QN) (by rw[dK,if_pos rfl]) iu.2 (by simp;omega);refine⟨w',c',?_,⟨q2.tape,q2.os,q2.output,by rw[q2.size];simp[w1,World.setCell],fun k=>?_⟩,by rw[q3];simp,fun k=>?_⟩
  ·simp only[storeCells,Sem.run_bind,gM,run_store P w _ v .plain (nD iu.1),DI,Aa];simp only[Bool.false_eq_true,if_false,Result.andThen_ok];exact q1
  ·rw[q2.get];by_cases ek:k=r
   ·rw[if_pos ek,if_pos ek]
   ·rw[if_neg ek,if_neg ek,dK,if_neg ek]
  ·rw[q4 k];by_cases h1:off+(i+1)≤k∧k<off+(i+1)+vs.length
   ·rw[if_pos h1,if_pos (by simp;omega)];have:k - (off+i)=(k - (off+(i+1)))+1:=by omega
    rw[this,List.getElem?_cons_succ]
   ·rw[if_neg h1];by_cases h2:k=off+i
    ·subst h2;rw[if_pos (by simp),Array.getElem?_setIfInBounds_self_of_lt (show off+i<c.size by omega)];simp
    ·rw[if_neg (by simp;omega),Array.getElem?_setIfInBounds_ne om]
theorem Ab (n:Nat):∀(rounds c:Nat),256≤c→Builtin.growBy n rounds c≤c*2 ^ rounds
 |0,c,_=>by simp[Builtin.growBy]
 |k+1,c,h=>by
  simp only[Builtin.growBy];split
  ·exact Nat.le_mul_of_pos_right _ (Nat.pow_pos om)
  ·have h1:c+(c+768) / 4≤c*2:=by omega
   have:=Ab n k (c+(c+768) / 4) om
   calc _≤(c+(c+768) / 4)*2 ^ k:=this
    _≤(c*2)*2 ^ k:=Nat.mul_le_mul_right _ h1
    _=c*2 ^ (k+1):=by rw[Nat.pow_succ,Nat.mul_assoc,Nat.mul_comm 2]
theorem nextslicecap_le {n c:Nat} (h:c<n):Builtin.nextslicecap n c≤16*n:=by
 unfold Builtin.nextslicecap;split
 ·omega
 ·split
  ·omega
  ·have:=Ab n 4 c om;omega
section
variable {P:Program} {E:Env} {μ:bn} {f:AF} {a:Act} {base B:Nat} {h:ab} {w:World}
theorem DJ {x x':Value} {n:Nat} (h:mE x=some n) (hr:au μ x x'):fx P (Builtin.lenOf x') n:=by
 unfold mE at h;split at h
 ·simp only[Option.some.injEq]at h;subst h;intro w;cases hr<;>rfl
 ·simp only[Option.some.injEq]at h;subst h;cases hr;intro w;rfl
 ·cases h
theorem nE (H:bh E base B μ h w) {size n L:Nat} {x x':Value} {l:List Value} (h1:fm h size n x=some l) (hr:au μ x x') (hL:mE x=some L) (hn:n≤L):
 ∃l',ay μ l l'∧∀d,(Builtin.firstCells size n x').run P {w with drawn:=d}= .ok l'.toArray {w with drawn:=d}:=by
 unfold fm at h1;split at h1
 ·rename_i b o z len cap;cases hr with
  |lit hh=>simp[aC]at hh
  |slice hb k1 k2 k3 k4=>
   rename_i cap' m;obtain⟨l',r1,r2⟩:=H.z9 hb h1;refine⟨l',r1,fun d=>?_⟩;simp only[Builtin.firstCells,loadCells];have hl:l'.length=n*size:=by rw[←r1.length];exact(H.ae hb h1).1
   rw[run_loadCells (n*size) 0 #[] l' hl (fun k v hv=>by rw[gM];have:=r2 k v hv;simpa[World.cell?]using this)];simp
  |cP=>
   simp only[mE,Option.some.injEq]at hL;have mK:n=0:=by omega
   subst mK;unfold M.ae at h1;simp only[Option.bind_eq_some_iff,aW]at h1;obtain⟨cs,_,_,rfl⟩:=h1;refine⟨[],by simpa using ay.nil,fun d=>?_⟩;simp[Builtin.firstCells,loadCells,loadCellsFrom]
 ·rename_i len cap;simp only[Option.some.injEq]at h1;subst h1;cases hr with
  |lit hh=>exact⟨[],.nil,fun d=>by simp[Builtin.firstCells]⟩
 ·rename_i s;simp only[Option.some.injEq]at h1;subst h1;cases hr.ax rfl;refine⟨_,ay.cb μ (by
   rw[List.all_eq_true];intro v hv;obtain⟨u,_,rfl⟩:=List.mem_map.1 hv;rfl),fun d=>?_⟩
  simp only[Builtin.firstCells,Sem.run_pure]
  congr 1
  apply Array.ext';simp[List.extract_eq_take_drop]
 ·cases h1
theorem ug (H:bh E base B μ h w) {b o:Nat} {m:MT} (hb:μ b=some m) {cs cs' vs nB:List Value} {h':ab} (fP:h.rd b=some cs) (cQ:c8 cs o vs=some cs') (oL:h.wr base b cs'=some h')
 (hr:ay μ vs nB) (iu:vs.all dY=true):∃w',(storeCells ⟨m.r,m.s+o,none⟩ nB).run P w= .ok () w'∧Step E base B μ h w μ h' w':=by
 obtain⟨c,e,fr,k1,k2,k3,k4,k5⟩:=H.read hb fP;obtain⟨f,aQ,bt,_,_,_⟩:=IH oL;have QN:mH fr c.size:=by rw[k2];exact k4 bt
 obtain⟨s1,s2,s3⟩:=dv cQ;have hl:=hr.length;have u7:nB.all dY=true:=by
  rw[List.all_eq_true]at iu ⊢;intro v' uX;obtain⟨i,hi,rfl⟩:=List.mem_iff_getElem.1 uX;have h0:vs[i]? =some (vs[i]' om):=by simp
  obtain⟨u,q1,q2⟩:=hr.get h0;have:nB[i]? =some nB[i]:=by simp[hi]
  rw[this]at q1;cases q1;exact q2.dY (iu _ (List.getElem_mem _))
 obtain⟨w',c',q1,q2,q3,q4⟩:=iI (P:=P) nB 0 w c QN k1 u7 (off:=m.s+o) om;obtain⟨r,_,_,o7⟩:=rd_some fP;refine⟨w',q1,Step.wr H hb o7 s2 oL k1 q3 q2 fun i v hv=>?_⟩;rw[s3 i]at hv;rw[q4 (m.s+i)];by_cases hi:o≤i∧i<o+vs.length
 ·rw[if_pos hi]at hv;rw[if_pos om];obtain⟨v',z1,z2⟩:=hr.get hv;exact⟨v',by rw[←z1];congr 1;omega,z2⟩
 ·rw[if_neg hi]at hv;rw[if_neg om];exact k5 i v hv
end
section
variable {P:Program} {E:Env} {μ:bn} {f:AF} {a:Act} {base B:Nat} {h:ab} {w:World}
def zC (b:Option Addr) (k:Nat) (new:List Value):Sem Unit:=match b with|some a=>storeCells (a.add k) new|none=>pure ()
theorem pb (z:Array Value) (n:Nat):(Builtin.zeroCells z n).size=n*z.size:=by simp[Builtin.zeroCells]
theorem nF (hE:bu P E) {st xt ty elem:TypeId} {xd:TypeDesc} {size bytes n len cap:Nat} {z0:Value} {base':Option Addr} {x':Value} {old new:List Value}
 (bW:E.desc st=some (.slice elem)) (Rf:E.desc xt=some xd) (Nk:kM xd=false) (hs:E.size elem=some size) (Gf:E.bytes elem=some bytes) (hz:E.zero elem=some z0) (jy:z0.cells.size=size)
 (Rg:fx P (Builtin.lenOf x') n)
 (ko:∀d,(Builtin.firstCells size n x').run P {w with drawn:=d}= .ok new.toArray {w with drawn:=d}):
 (len+n≤cap→∀w',(zC base' (len*size) new).run P w= .ok () w'→(Builtin.append_ #[st,xt] ty #[.slice base' len cap,x']).run P w= .ok (.slice base' (len+n) cap) w')∧
 (cap<len+n→(len+n+1)*(bytes+1)≤1099511627776→(∀d,(Builtin.firstCells size len (.slice base' len cap)).run P {w with drawn:=d}= .ok old.toArray {w with drawn:=d})→∃dy rest,len+n≤dy∧rest.size=(dy - (len+n))*size∧
  (Builtin.append_ #[st,xt] ty #[.slice base' len cap,x']).run P w= .ok (.slice (some ⟨w.heap.size,0,none⟩) (len+n) dy) {w with heap:=w.heap.push (.cells (old.toArray++new.toArray++rest) elem (0,0)),drawn:=w.drawn+1}):=by
 obtain⟨ti,Uh,QM⟩:=BL hE Gf;have hw:({w with drawn:=w.drawn}:World)=w:=rfl;constructor
 ·intro nG w' Nq;unfold Builtin.append_;simp only[List.getElem?_toArray,List.getElem?_cons_zero,List.getElem?_cons_succ,Sem.run_bind,aH hE bW w,aH hE Rf w,Result.andThen_ok,fR hE hs w,Sem.run_pure];split
  ·simp[kM]at Nk
  simp only[Bool.false_eq_true,if_false,Sem.run_bind,Rg w,Result.andThen_ok];rw[if_pos nG];have:=ko w.drawn;simp only[Bool.not_false,if_true,Sem.run_bind];rw[show(Builtin.firstCells size n x').run P w= .ok new.toArray w from this];cases base' with
  |none=>
   simp only[zC,Sem.run_pure]at Nq;cases Nq;simp
  |some a=>
   simp only[zC]at Nq;simp[Nq]
 ·intro Ze lH hold;have Dp:len+n+1≤1099511627776:=Nat.le_trans (Nat.le_mul_of_pos_right _ om) lH;have VK:¬(((len+n:Nat):Int)>IntKind.i64.max):=by
   have e:IntKind.i64.max=9223372036854775807:=by decide
   rw[e];omega
  have gC:¬(Builtin.nextslicecap (len+n) cap*ti.bytes>2 ^ 48):=by
   have h1:=nextslicecap_le Ze;have h2:Builtin.nextslicecap (len+n) cap*ti.bytes≤16*(len+n)*bytes:=by rw[Uh];exact Nat.mul_le_mul_right _ h1
   have h3:16*(len+n)*bytes≤16*((len+n+1)*(bytes+1)):=by
    rw[Nat.mul_assoc];exact Nat.mul_le_mul_left _ (Nat.mul_le_mul om om)
   have e:(2:Nat) ^ 48=281474976710656:=by decide
   rw[e];omega
  let nc:=(Question.appendCap (len+n) cap elem).cut (w.tape w.drawn (Question.appendCap (len+n) cap elem))
  refine⟨nc,Builtin.zeroCells z0.cells (nc - (len+n)),?_,by rw[pb,jy],?_⟩
  ·simp only[nc,Question.cut];omega
  ·unfold Builtin.append_;simp only[List.getElem?_toArray,List.getElem?_cons_zero,List.getElem?_cons_succ,Sem.run_bind,aH hE bW w,aH hE Rf w,Result.andThen_ok,fR hE hs w,Sem.run_pure];split
   ·simp[kM]at Nk
   simp only[Bool.false_eq_true,if_false,Sem.run_bind,Rg w,Result.andThen_ok];rw[if_neg om];simp only[Sem.run_bind,QM w,Result.andThen_ok];rw[if_neg (fun hh=>VK hh.1)];simp only[Sem.run_bind,QM w,Result.andThen_ok];rw[if_neg gC];have ho:=hold (w.drawn+1);have hn:=ko (w.drawn+1);simp only[Sem.run_bind,run_choose,Question.forced,Bool.false_eq_true,if_false,Result.andThen_ok,QM _,run_askRoom,ho,hn,Bool.not_false,if_true,j6 hE hz _];rfl
end
section
variable {P:Program} {E:Env} {μ:bn} {f:AF} {a:Act} {base B:Nat} {h:ab} {w:World}
def j7 (P:Program) (E:Env) (base B:Nat) (μ:bn) (h:ab) (w:World) (s:Sem Value) (v:Value) (h':ab):Prop:=
 ∃aU v' w',s.run P w= .ok v' w'∧au aU v v'∧Step E base B μ h w aU h' w'
theorem uh (H:bh E base B μ h w) {cs:List Value} {cs':List Value} (hr:ay μ cs cs') {rest:Array Value} {elem:TypeId} {size len dy:Nat} (hl:len≤dy) (hlen:cs.length=len*size) (DD:rest.size=(dy - len)*size) (d:Nat):
 ∃aU,au aU (fresh h cs size len).1 (.slice (some ⟨w.heap.size,0,none⟩) len dy)∧
  Step E base B μ h w aU (fresh h cs size len).2 {w with heap:=w.heap.push (.cells (cs'.toArray++rest) elem (0,0)),drawn:=d}:=by
 have hs:(cs'.toArray++rest).size=dy*size:=by
  have:=hr.length;simp only[Array.size_append,List.size_toArray,DD,←this,hlen];rw[←Nat.add_mul];congr 1;omega
 have hd:=Step.drawn H d;have cW:=DC.mk' {w with drawn:=d} (.cells (cs'.toArray++rest) elem (0,0));have st:=Step.alloc hd.rel cW (dy*size) (o:=.cells cs h.size h.size 0) (fun cs f cA aQ hh=>by cases hh;exact⟨rfl,rfl⟩) (by
  have:=mJ (base:=base) (b:=h.size) (r:=w.heap.size) hr elem (kN μ h.size ⟨w.heap.size,0,dy*size⟩) (h.push (.cells cs h.size h.size 0)) (gA H.fresh) h.size h.size 0 rest (cs'.toArray++rest) (by simp);rw[hs]at this;exact this)
 refine⟨_,?_,hd.trans st⟩;have:=au.slice (o:=0) (z:=size) (len:=len) (cap:=len+1) (cap':=dy) (bN μ h.size ⟨w.heap.size,0,dy*size⟩) om hl (fun h=>by omega) (by simp only;omega);simpa[fresh]using this
theorem zD {b o:Nat} {l:List Value} (hr:M.ae h b o 0=some l):l=[]:=by
 unfold M.ae at hr;simp only[Option.bind_eq_some_iff,aW]at hr;obtain⟨cs,_,_,rfl⟩:=hr;simp
set_option maxHeartbeats 1000000 in
set_option maxHeartbeats 1000000 in
theorem GC (hE:bu P E) (H:bh E base B μ h w) {st xt ty:TypeId} {s x s' x' v:Value} {h':ab} (ha:bI E base h st xt s x=some (v,h')) (hs:au μ s s') (hx:au μ x x'):
 j7 P E base B μ h w (Builtin.append_ #[st,xt] ty #[s',x']) v h':=by
 unfold bI at ha;simp only[Option.bind_eq_some_iff]at ha;obtain⟨sd,bW,xd,Rf,ha⟩:=ha;split at ha
 ·rename_i elem;simp only[Option.bind_eq_some_iff,ai,Bool.and_eq_true,Bool.not_eq_true',beq_iff]at ha;obtain⟨size,fL,bytes,Gf,z0,hz,n,hn,⟨Nk,jy⟩,ha⟩:=ha;have Rg:=DJ (P:=P) hn hx;have hxz:∀d,(Builtin.firstCells size 0 x').run P {w with drawn:=d}= .ok ([]:List Value).toArray {w with drawn:=d}:=by
   intro d;unfold mE at hn;split at hn
   ·cases hx with
    |lit hh=>
     unfold aC at hh;split at hh<;>simp_all[Builtin.firstCells]
    |slice=>simp[Builtin.firstCells,loadCells,loadCellsFrom]
    |cP=>simp[Builtin.firstCells,loadCells,loadCellsFrom]
   ·cases hx with
    |lit hh=>simp[Builtin.firstCells]
   ·cases hn
  split at ha
  ·-- a nil slice
   have es:s'= .slice none 0 0:=by cases hs;rfl
   subst es;have rap:=fun new ko=>nF (w:=w) (ty:=ty) (base':=none) (cap:=0) (len:=0) (old:=[]) (new:=new) hE bW Rf Nk fL Gf hz jy Rg ko;rw[bY]at ha;split at ha
   ·rename_i h0;rw[beq_iff]at h0;subst h0;simp only[Option.some.injEq,Prod.mk.injEq]at ha;obtain⟨rfl,rfl⟩:=ha;exact⟨μ,_,w,(rap [] hxz).1 (Nat.le_refl _) w rfl,.lit rfl,.refl H⟩
   ·rename_i h0;rw[beq_iff]at h0;simp only[ai,aG,beq_iff,Option.bind_eq_some_iff,Option.some.injEq]at ha;obtain⟨lH,new,ko,hl,ha⟩:=ha;obtain⟨vS,r1,r2⟩:=nE (P:=P) H ko hx hn (Nat.le_refl _);obtain⟨dy,rest,k1,k2,k3⟩:=(rap vS r2).2 om (by simpa using lH) (fun d=>by simp[Builtin.firstCells]);obtain⟨aU,q1,q2⟩:=uh (elem:=elem) H r1 (rest:=rest) (by simpa using k1) hl (by simpa using k2) (w.drawn+1);simp only[Nat.zero_add]at k3 ha;rw[ha]at q1 q2;refine⟨aU,_,_,k3,q1,?_⟩;simpa using q2
  ·rename_i b o z len cap;rw[bY]at ha;split at ha
   ·-- nothing is appended
    rename_i h0;rw[beq_iff]at h0;subst h0;simp only[Option.some.injEq,Prod.mk.injEq]at ha;obtain⟨rfl,rfl⟩:=ha;have fin:∀(a':Addr) (cap':Nat),s'= .slice (some a') len cap'→len≤cap'→j7 P E base B μ h w (Builtin.append_ #[st,xt] ty #[s',x']) (.slice (some ⟨b,o,some z⟩) len cap) h:=by
     intro a' cap' e IM;subst e;have ra:=(nF (w:=w) (ty:=ty) (base':=some a') (cap:=cap') (len:=len) (old:=[]) hE bW Rf Nk fL Gf hz jy Rg hxz).1 om w (by simp[zC,storeCells]);exact⟨μ,_,w,ra,hs,.refl H⟩
    generalize hv:Value.slice (some ⟨b,o,some z⟩) len cap=v at hs;cases hs with
    |slice hb k1 k2 k3 k4=>cases hv;exact fin _ _ rfl k2
    |cP=>cases hv;exact fin _ _ rfl (Nat.le_refl _)
    |_=>cases hv<;>simp[aC]at*
   ·rename_i h0;rw[beq_iff]at h0;simp only[ai,Bool.and_eq_true,aG,beq_iff,Option.bind_eq_some_iff]at ha;obtain⟨⟨hzz,lH⟩,old,hold,new,ko,hl,ha⟩:=ha;subst hzz;obtain⟨vS,r1,r2⟩:=nE (P:=P) H ko hx hn (Nat.le_refl _)
    -- the elder cells
    have Zf:∃zE,ay μ old zE∧(∀d,(Builtin.firstCells z len s').run P {w with drawn:=d}= .ok zE.toArray {w with drawn:=d}):=
     nE (P:=P) H (x:=.slice (some ⟨b,o,some z⟩) len cap) (x':=s') hold hs rfl (Nat.le_refl _)
    obtain⟨zE,o1,o2⟩:=Zf;have Zg:old.length=len*z:=by
     unfold M.ae at hold;simp only[Option.bind_eq_some_iff,aW]at hold;obtain⟨cs,_,h3,rfl⟩:=hold;simp at h3 ⊢;omega
    have Nr:ay μ (old++new) (zE++vS):=o1.append r1;have IN:(old++new).length=(len+n)*z:=by rw[List.length_append,Zg,hl,Nat.add_mul]
    have Uj:∀(a':Addr) (cap':Nat),s'= .slice (some a') len cap'→cap'<len+n→∃dy rest,len+n≤dy∧rest.size=(dy - (len+n))*z∧
     (Builtin.append_ #[st,xt] ty #[s',x']).run P w= .ok (.slice (some ⟨w.heap.size,0,none⟩) (len+n) dy) {w with heap:=w.heap.push (.cells ((zE++vS).toArray++rest) elem (0,0)),drawn:=w.drawn+1}:=by
     intro a' cap' e hc;subst e;obtain⟨dy,rest,q1,q2,q3⟩:=(nF (w:=w) (ty:=ty) (base':=some a') (cap:=cap') (len:=len) (old:=zE) hE bW Rf Nk fL Gf hz jy Rg r2).2 hc lH o2;refine⟨dy,rest,q1,q2,?_⟩;rw[q3];simp
    rw[bY]at ha;split at ha
    ·-- no room
     rename_i bT;rw[beq_iff]at bT;subst bT;simp only[Option.some.injEq]at ha;have fin:∀(a':Addr) (cap':Nat),s'= .slice (some a') cap cap'→cap'<cap+n→j7 P E base B μ h w (Builtin.append_ #[st,xt] ty #[s',x']) v h':=by
      intro a' cap' e hc;obtain⟨dy,rest,q1,q2,q3⟩:=Uj a' cap' e hc;obtain⟨aU,p1,p2⟩:=uh (elem:=elem) H Nr (rest:=rest) q1 IN q2 (w.drawn+1);rw[ha]at p1 p2;exact⟨aU,_,_,q3,p1,p2⟩
     generalize hv:Value.slice (some ⟨b,o,some z⟩) cap cap=sv at hs;cases hs with
     |slice hb k1 k2 k3 k4=>cases hv;exact fin _ _ rfl (by have:=k3 rfl;omega)
     |cP=>cases hv;exact fin _ _ rfl om
     |_=>cases hv<;>simp[aC]at*
    ·-- the last block of a family goes on
     rename_i bT;rw[beq_iff]at bT;simp only[Option.bind_eq_some_iff,ai,Bool.and_eq_true,aG,beq_iff,Option.some.injEq,Prod.mk.injEq]at ha;obtain⟨cs,o7,⟨f,cA,aQ⟩,jf,⟨⟨dx,Nt⟩,iu⟩,rfl,rfl⟩:=ha;simp only at dx Nt;subst Nt;obtain⟨c9,Gg⟩:∃t,t=(bif Nat.beq (o+len*z) cs.length then aQ else h.size):=⟨_,rfl⟩;simp only
     rw[←Gg];have vR:∀x,x<h.size→c9≤x→aQ≤x:=by
      intro x hx h7;cases MP:Nat.beq (o+len*z) cs.length<;>rw[MP]at Gg<;>simp only[cond_true,cond_false]at Gg<;>omega
     have Uk:c9<h.size→o+len*z=cs.length:=by
      intro h7;cases MP:Nat.beq (o+len*z) cs.length<;>rw[MP]at Gg<;>simp only[cond_true,cond_false]at Gg
      ·omega
      ·exact beq_iff.1 MP
     have Yu:∀mt:MT,mt.s+0+(len+n)*z≤mt.n→∀Rh,len+n≤Rh→mt.s+0+Rh*z≤mt.n→
      au (kN μ h.size mt) (.slice (some ⟨h.size,0,some z⟩) (len+n) (len+n+1)) (.slice (some ⟨mt.r,mt.s+0,none⟩) (len+n) Rh):=by
      intro mt _ Rh hc nG;exact .slice (bN μ h.size mt) om hc (fun h=>by omega) nG
     have IP:∀(a':Addr) (cap':Nat) (m:MT),μ cA=some m→s'= .slice (some a') len cap'→cap'<len+n→j7 P E base B μ h w (Builtin.append_ #[st,xt] ty #[s',x']) (.slice (some ⟨h.size,0,some z⟩) (len+n) (len+n+1)) ((h.bB f h.size c9).push (.cells (old++new) f 0 0)):=by
      intro a' cap' m hb e hc;obtain⟨dy,rest,q1,q2,q3⟩:=Uj a' cap' e hc;have acB:((zE++vS).toArray++rest).size=dy*z:=by
       have:=Nr.length;simp only[Array.size_append,List.size_toArray,q2,←this,IN];rw[←Nat.add_mul];congr 1;omega
      let mt:MT:=⟨w.heap.size,0,dy*z⟩
      have hle:dy*z≥(len+n)*z:=Nat.mul_le_mul_right _ q1
      have st:=Step.ext (w':={w with heap:=w.heap.push (.cells ((zE++vS).toArray++rest) elem (0,0)),drawn:=w.drawn+1}) H c9 vR hb jf dx (cs:=cs) (new:=old++new) mt (by simp) rfl rfl rfl
       ⟨(zE++vS).toArray++rest,elem,(0,0),by simp[mt],Ua _,acB,by simp only[mt];omega,fun i v hv=>by
        obtain⟨v',z1,z2⟩:=Nr.get hv;refine⟨v',?_,z2⟩;have hi:=(List.getElem?_eq_some_iff.1 z1).1;simp only[mt,Nat.zero_add];rw[←Array.getElem?_toList,Array.toList_append,List.getElem?_append_left (by simpa using hi)];exact z1⟩ o7
       (fun r hr bc=>by simp only[mt]at bc;simp only[Array.getElem?_push];rw[if_neg om]) H.low (.inl (Nat.le_refl _))
      refine⟨_,_,_,q3,?_,st⟩;have:=Yu mt (by simp only[mt];omega) dy q1 (by simp only[mt];omega);simpa[mt]using this
     generalize hv:Value.slice (some ⟨cA,o,some z⟩) len cap=sv at hs;cases hs with
     |slice hb k1 k2 k3 k4=>
      rename_i b1 o1' z1 Ri Zh cap' m;cases hv;by_cases nG:len+n≤cap'
      ·-- in place
       obtain⟨c,e,fr,w1,w2,w3,w4,w5⟩:∃c e fr,w.heap[m.r]? =some (.cells c e fr)∧c.size=m.n∧m.s+cs.length≤m.n∧(base≤cA→mH fr m.n)∧∀(i:Nat) v,cs[i]? =some v→∃v',c[m.s+i]? =some v'∧au μ v v':=by
        unfold M.ae at hold;simp only[Option.bind_eq_some_iff]at hold;obtain⟨cs2,fP,_⟩:=hold;obtain⟨_,_,_,h9⟩:=rd_some fP;rw[o7]at h9;cases h9;exact H.read hb fP
       have Zi:=H.dr cA m _ hb jf;simp only at Zi;have Ul:base≤cA:=by omega
       have QN:mH fr c.size:=by rw[w2];exact w4 Ul
       have u7:vS.all dY=true:=by
        rw[List.all_eq_true]at iu ⊢;intro v' uX;obtain⟨i,hi,rfl⟩:=List.mem_iff_getElem.1 uX;have agj:=r1.length;have h0:new[i]? =some (new[i]' om):=by simp
        obtain⟨u,q1,q2⟩:=r1.get h0;have:vS[i]? =some vS[i]:=by simp[hi]
        rw[this]at q1;cases q1;exact q2.dY (iu _ (List.getElem_mem _))
       have w7:vS.length=n*z:=by rw[←r1.length];exact hl
       have hmul:(len+n)*z=len*z+n*z:=Nat.add_mul _ _ _;have gK:(len+n)*z≤cap'*z:=Nat.mul_le_mul_right _ nG;obtain⟨w',c',q1,q2,q3,q4⟩:=iI (P:=P) (off:=m.s+o+len*z) vS 0 w c QN w1 u7 om;have ra:=(nF (w:=w) (ty:=ty) (base':=some ⟨m.r,m.s+o,none⟩) (cap:=cap') (len:=len) (old:=zE) hE bW Rf Nk fL Gf hz jy Rg r2).1 nG w' (by simp only[zC,gM];exact q1)
       let mt:MT:=⟨m.r,m.s+o,m.n⟩
       have Zj:∀(i:Nat) v,old[i]? =some v→∃v',c[m.s+o+i]? =some v'∧au μ v v':=by
        intro i v hv;unfold M.ae at hold;simp only[Option.bind_eq_some_iff,aW]at hold;obtain⟨cs2,fP,h3,rfl⟩:=hold;obtain⟨_,_,_,h9⟩:=rd_some fP;rw[o7]at h9;cases h9;have hi:=(List.getElem?_eq_some_iff.1 hv).1;simp at hi;rw[List.getElem?_take,if_pos om,List.getElem?_drop]at hv;obtain⟨v',z1,z2⟩:=w5 _ v hv;exact⟨v',by rw[Nat.add_assoc];exact z1,z2⟩
       have st:=Step.ext (w':=w') H c9 vR hb jf dx (cs:=cs) (new:=old++new) mt (by rw[q2.size];exact Nat.le_refl _) q2.tape q2.os q2.output
        ⟨c',e,fr,by rw[q2.get,if_pos rfl],w4 Ul,by rw[q3,w2],by simp only[mt];omega,fun i v hv=>by
         simp only[mt];rw[q4];by_cases hi:i<old.length
         ·rw[List.getElem?_append_left hi]at hv;obtain⟨v',z1,z2⟩:=Zj i v hv;refine⟨v',?_,z2⟩;rw[if_neg om];exact z1
         ·rw[List.getElem?_append_right om]at hv;have Zk:=(List.getElem?_eq_some_iff.1 hv).1;obtain⟨v',z1,z2⟩:=r1.get hv;refine⟨v',?_,z2⟩;rw[if_pos om,←z1];congr 1;omega⟩ o7
        (fun r hr bc=>by rw[q2.get,if_neg bc]) (H.own cA m hb Ul)
        (.inr ⟨rfl,rfl,fun h7=>by have:=Uk h7;simp only[mt];omega,fun c2 e2 fr2 hh=>by
         rw[w1]at hh;cases hh;exact⟨c',by rw[q2.get,if_pos rfl],q3,fun h7 i hi=>by have:=Uk h7;rw[q4,if_neg om]⟩⟩)
       refine⟨_,_,w',ra,?_,st⟩;have:=Yu mt (by simp only[mt];omega) cap' nG (by simp only[mt];omega);simpa[mt]using this
      ·exact IP _ _ m hb rfl om
     |cP hb=>cases hv;obtain⟨m0,hb⟩:=hb om;exact IP _ _ _ hb rfl om
     |_=>cases hv<;>simp[aC]at*
  ·cases ha
 ·cases ha
end
theorem z8.set (w:World) (r:Nat) (o:Obj) (hr:r<w.heap.size):z8 w r o {w with heap:=w.heap.setIfInBounds r o}:=
 ⟨rfl,rfl,rfl,by simp,fun k=>by
  by_cases e:k=r
  ·subst e;rw[if_pos rfl,Array.getElem?_setIfInBounds_self_of_lt hr]
  ·rw[if_neg e,Array.getElem?_setIfInBounds_ne (fun h=>e h.symm)]⟩
theorem cg {P:Program} {w:World} {r:Nat} {o1 o:Obj} (h:w.heap[r]? =some o1) (ho:∀c e f,o1≠ .cells c e f):(setObj r o).run P w= .ok () {w with heap:=w.heap.setIfInBounds r o}:=by
 unfold setObj;simp only[Sem.run,h]
section
variable {P:Program} {E:Env} {μ:bn} {f:AF} {a:Act} {base B:Nat} {h:ab} {w:World}
theorem Nu (hE:bu P E) (H:bh E base B μ h w) {dt ty:TypeId} {d s d' s' v:Value} {h':ab} (ha:M9 E base h dt d s=some (v,h')) (hd:au μ d d') (hs:au μ s s') (ts:Array TypeId) (ht:ts[0]? =some dt):
 j7 P E base B μ h w (Builtin.copy_ ts ty #[d',s']) v h':=by
 unfold M9 at ha;simp only[Option.bind_eq_some_iff]at ha;obtain⟨dd,QO,ha⟩:=ha;split at ha
 ·rename_i elem ad BD agk;simp only[Option.bind_eq_some_iff]at ha;obtain⟨size,fL,sl,DK,ha⟩:=ha;have Rg:=DJ (P:=P) DK hs;have hd':∃Yv cap',d'= .slice Yv BD cap':=by cases hd<;>exact⟨_,_,rfl⟩
  obtain⟨Yv,cap',rfl⟩:=hd';have run:∀(cells:List Value) (w':World),(Builtin.firstCells size (Nat.min sl BD) s').run P w= .ok cells.toArray w→(zC Yv 0 cells).run P w= .ok () w'→(Builtin.copy_ ts ty #[.slice Yv BD cap',s']).run P w= .ok (goInt (Nat.min sl BD)) w':=by
   intro cells w' h1 h2;unfold Builtin.copy_;simp only[ht,List.getElem?_toArray,List.getElem?_cons_zero,List.getElem?_cons_succ,Sem.run_bind,aH hE QO w,Result.andThen_ok,Rg w,fR hE fL w,h1];cases Yv with
   |none=>simp only[zC,Sem.run_pure]at h2;cases h2;simp
   |some aa=>
    simp only[zC]at h2;have:aa.add 0=aa:=by simp[Addr.add]
    rw[this]at h2;simp[h2]
  rw[bY]at ha;split at ha
  ·rename_i h0;rw[beq_iff]at h0;simp only[Option.some.injEq,Prod.mk.injEq]at ha;obtain⟨rfl,rfl⟩:=ha;have sm:(Builtin.firstCells size (Nat.min sl BD) s').run P w= .ok ([]:List Value).toArray w:=by
    rw[h0];unfold mE at DK;split at DK
    ·cases hs with
     |lit hh=>unfold aC at hh;split at hh<;>simp_all[Builtin.firstCells]
     |slice=>simp[Builtin.firstCells,loadCells,loadCellsFrom]
     |cP=>simp[Builtin.firstCells,loadCells,loadCellsFrom]
    ·cases hs with
     |lit hh=>simp[Builtin.firstCells]
    ·cases DK
   have:=run [] w sm (by cases Yv<;>simp[zC,storeCells]);rw[h0]at this;exact⟨μ,_,w,this,.int μ _ _,.refl H⟩
  ·rename_i h0;rw[beq_iff]at h0;split at ha
   ·rename_i b o z;simp only[Option.bind_eq_some_iff,ai,Option.some.injEq,Prod.mk.injEq]at ha;obtain⟨cells,hc,iu,cs,fP,cs',cQ,h1,oL,rfl,rfl⟩:=ha;obtain⟨cells',r1,r2⟩:=nE (P:=P) H hc hs DK (Nat.min_le_left _ _);cases hd with
    |slice hb k1 k2 k3 k4=>
     obtain⟨w',q1,q2⟩:=ug (P:=P) H hb fP cQ oL r1 iu;exact⟨μ,_,w',run cells' w' (r2 w.drawn) (by simp only[zC,gM];exact q1),.int μ _ _,q2⟩
    |cP=>exact absurd (Nat.min_zero _) h0
    |lit hh=>simp[aC]at hh
   ·cases ha
 ·cases ha
theorem Ki (hE:bu P E) (H:bh E base B μ h w) {t ty:TypeId} {x x' v:Value} {h':ab} (ha:qU E base h t x=some (v,h')) (hx:au μ x x') (ts:Array TypeId) (ht:ts[0]? =some t) (args:Array Value) (ke:args[0]? =some x')
 (hu:∃d,E.desc t=some d):j7 P E base B μ h w (Builtin.clear_ ts ty args) v h':=by
 obtain⟨d,QO⟩:=hu;unfold qU at ha;split at ha
 ·simp only[Option.some.injEq,Prod.mk.injEq]at ha;obtain⟨rfl,rfl⟩:=ha;have ex:x'= .map none:=by cases hx;rfl
  subst ex;refine⟨μ,.tuple #[],w,?_,au.undef μ,.refl H⟩;unfold Builtin.clear_;simp only[ht,ke,Sem.run_bind,aH hE QO w,Result.andThen_ok];rfl
 ·simp only[Option.some.injEq,Prod.mk.injEq]at ha;obtain⟨rfl,rfl⟩:=ha;have ex:∃n c,x'= .slice none n c:=by cases hx;exact⟨_,_,rfl⟩
  obtain⟨n,c,rfl⟩:=ex;refine⟨μ,.tuple #[],w,?_,au.undef μ,.refl H⟩;unfold Builtin.clear_;simp only[ht,ke,Sem.run_bind,aH hE QO w,Result.andThen_ok];rfl
 ·rename_i b o z n cap;have shape:∃a' cap',x'= .slice (some a') n cap':=by
   cases hx with
   |lit hh=>simp[aC]at hh
   |slice=>exact⟨_,_,rfl⟩
   |cP=>exact⟨_,_,rfl⟩
  rw[bY]at ha;split at ha
  ·rename_i h0;rw[beq_iff]at h0;subst h0;simp only[Option.some.injEq,Prod.mk.injEq]at ha;obtain⟨rfl,rfl⟩:=ha;obtain⟨a',cap',rfl⟩:=shape;refine⟨μ,.tuple #[],w,?_,au.undef μ,.refl H⟩;unfold Builtin.clear_;simp only[ht,ke,Sem.run_bind,aH hE QO w,Result.andThen_ok];rfl
  ·rename_i h0;rw[beq_iff]at h0;simp only[Option.bind_eq_some_iff]at ha;obtain⟨d2,Zm,ha⟩:=ha;rw[QO]at Zm;cases Zm;split at ha
   ·rename_i elem;simp only[Option.bind_eq_some_iff,ai,Option.some.injEq,Prod.mk.injEq]at ha;obtain⟨zv,hz,iu,cs,fP,cs',cQ,h1,oL,rfl,rfl⟩:=ha;have rk:=(au.cb μ (hE.zero elem zv hz).2).cells;have u7:(aT zv.cells.toList n).all dY=true:=by
     have:∀k,(aT zv.cells.toList k).all dY=true:=by
      intro k
      induction k with
      |zero=>rfl
      |succ k ih=>simp only[M.aT,List.all_append,iu,ih,Bool.and_self]
     exact this n
    cases hx with
    |lit hh=>simp[aC]at hh
    |slice hb k1 k2 k3 k4=>
     rename_i cap' m;obtain⟨w',q1,q2⟩:=ug (P:=P) H hb fP cQ oL (rk.aT n) u7;refine⟨μ,.tuple #[],w',?_,au.undef μ,q2⟩;have Uf:(Builtin.zeroCells zv.cells n).toList=aT zv.cells.toList n:=by
      unfold Builtin.zeroCells;by_cases sk:0<zv.cells.size
      ·exact sj zv.cells n sk
      ·have e0:zv.cells.size=0:=by omega
       have e1:(aT zv.cells.toList n)=[]:=by
        apply List.eq_nil_of_length_eq_zero;rw[dh];simp[e0]
       rw[e1];simp[e0]
     obtain⟨n',rfl⟩:∃n',n=n'+1:=⟨n - 1,om⟩;unfold Builtin.clear_;simp only[ht,ke,Sem.run_bind,aH hE QO w,Result.andThen_ok,j6 hE hz w,Uf,q1,Sem.run_pure]
    |cP=>exact absurd rfl h0
   ·cases ha
 ·rename_i r;simp only[ai,aG]at ha;obtain⟨bt,ha⟩:=ha;split at ha
  ·rename_i es clock hg;simp only[Option.some.injEq,Prod.mk.injEq]at ha;obtain⟨rfl,rfl⟩:=ha;obtain⟨m,hb,rfl⟩:=hx.lF;obtain⟨o1,o2,k1,k2,k3⟩:=H.obj r m hb;rw[hg]at k1;cases k1;cases k3 with
   |map hs=>
    have st:=Step.put H hb bt hg rfl rfl (z8.set w m.r (.map #[] clock) (H.lt hb)) (.map (by simpa using cB.nil));refine⟨μ,.tuple #[],_,?_,au.undef μ,st⟩;unfold Builtin.clear_;simp only[ht,ke,Sem.run_bind,aH hE QO w,Result.andThen_ok,run_getObj_map (P:=P) k2 (fun _ _ _=>by simp),cg (P:=P) k2 (fun _ _ _=>by simp),Sem.run_pure]
  ·cases ha
 ·cases ha
theorem w8 {kd:TypeDesc} {k:Value}:∀{es:List MapEntry} {i j:Nat} {v:Value},Instr.findNow kd k es i=some (some (j,v))→i≤j∧j<i+es.length
 |[],i,j,v,h=>by simp[Instr.findNow]at h
 |e::es,i,j,v,h=>by
  simp only[Instr.findNow]at h;split at h
  ·simp only[Option.some.injEq,Prod.mk.injEq]at h;obtain⟨rfl,_⟩:=h;simp
  ·have:=w8 h;simp;omega
  ·cases h
theorem cB.eraseIdx {l l':List MapEntry} (hs:cB μ l l'):∀i,cB μ (l.eraseIdx i) (l'.eraseIdx i):=by
 induction hs with
 |nil=>intro i;simpa using cB.nil
 |cons hk hv hb t ih=>intro i;cases i with
  |zero=>simpa using t
  |succ i=>simpa using cB.cons hk hv hb (ih i)
theorem cB.append {l l' k k':List MapEntry} (hs:cB μ l l') (hk:cB μ k k'):cB μ (l++k) (l'++k'):=by
 induction hs with
 |nil=>exact hk
 |cons a b c _ ih=>exact .cons a b c ih
theorem cB.modify {l l':List MapEntry} (hs:cB μ l l') {g g':MapEntry→MapEntry} (hg:∀e e',au μ e.key e'.key→au μ e.val e'.val→e.born=e'.born→au μ (g e).key (g' e').key∧au μ (g e).val (g' e').val∧(g e).born=(g' e').born):∀i,cB μ (l.modify i g) (l'.modify i g'):=by
 induction hs with
 |nil=>intro i;simpa using cB.nil
 |cons hk hv hb t ih=>intro i;cases i with
  |zero=>obtain⟨a,b,c⟩:=hg _ _ hk hv hb;simpa using cB.cons a b c t
  |succ i=>simpa using cB.cons hk hv hb (ih i)
theorem GD (hE:bu P E) (H:bh E base B μ h w) {t ty:TypeId} {mv k mv' k' v:Value} {h':ab} (ha:r9 E base h t mv k=some (v,h')) (hm:au μ mv mv') (hk:au μ k k') (ts:Array TypeId) (ht:ts[0]? =some t):
 j7 P E base B μ h w (Builtin.delete_ ts ty #[mv',k']) v h':=by
 unfold r9 at ha;simp only[Option.bind_eq_some_iff]at ha;obtain⟨d,hd,ha⟩:=ha;split at ha
 ·rename_i kt et r;simp only[ai,Bool.and_eq_true,aG,Option.bind_eq_some_iff]at ha;obtain⟨⟨bt,Ac⟩,kd,iH,bW,ha⟩:=ha;split at ha
  ·rename_i es clock hg;obtain⟨m,hb,rfl⟩:=hm.lF;have ek:=hk.ax Ac;subst ek;obtain⟨o1,o2,k1,k2,k3⟩:=H.obj r m hb;rw[hg]at k1;cases k1;cases k3 with
   |map hs=>
    rename_i bS;simp only[Option.bind_eq_some_iff]at ha;obtain⟨fr,Aa,ha⟩:=ha;obtain⟨MR,q1,q2,q3⟩:=jI hs Aa;have Kh:(Instr.findKey kt k' bS.toList).run P w= .ok MR w:=by
     simp only[Instr.findKey,Sem.run_bind,aH hE iH w,Result.andThen_ok,q1,Sem.run_pure]
    have kr:=kS (P:=P) hE iH bW bS.isEmpty 9999 k' w;have pW:=run_getObj_map (P:=P) k2 (fun _ _ _=>by simp);have IQ:=fun o=>cg (P:=P) (o:=o) k2 (fun _ _ _=>by simp);cases fr with
    |none=>
     have e:=q2 rfl;subst e;simp only[Option.some.injEq,Prod.mk.injEq]at ha;obtain⟨rfl,rfl⟩:=ha;have st:=Step.put H hb bt hg rfl rfl (z8.set w m.r (.map bS clock) (H.lt hb)) (.map hs);refine⟨μ,.tuple #[],_,?_,au.undef μ,st⟩;unfold Builtin.delete_;simp only[ht,List.getElem?_toArray,List.getElem?_cons_zero,List.getElem?_cons_succ,Sem.run_bind,aH hE hd w,Result.andThen_ok,pW,kr,Kh,IQ,Sem.run_pure]
    |some jv=>
     obtain⟨v',e,hr⟩:=q3 jv.1 jv.2 rfl;subst e;simp only[Option.some.injEq,Prod.mk.injEq]at ha;obtain⟨rfl,rfl⟩:=ha;have bH:=(w8 Aa).2;have hl:=hs.length;have st:=Step.put H hb bt hg rfl rfl (z8.set w m.r (.map (bS.eraseIdxIfInBounds jv.1) clock) (H.lt hb)) (.map (by
      have VD:jv.1<bS.size:=by simp at hl bH;omega
      have:(bS.eraseIdxIfInBounds jv.1).toList=bS.toList.eraseIdx jv.1:=by
       simp[Array.eraseIdxIfInBounds,VD]
      rw[this];exact hs.eraseIdx jv.1))
     refine⟨μ,.tuple #[],_,?_,au.undef μ,st⟩;unfold Builtin.delete_;simp only[ht,List.getElem?_toArray,List.getElem?_cons_zero,List.getElem?_cons_succ,Sem.run_bind,aH hE hd w,Result.andThen_ok,pW,kr,Kh,IQ,Sem.run_pure]
  ·cases ha
 ·cases ha
end
section
variable {P:Program} {E:Env} {μ:bn} {f:AF} {a:Act} {base B:Nat} {h:ab} {w:World}
theorem DL (hE:bu P E) (H:bh E base B μ h w) {st xt ty:TypeId} {s x s' x' v:Value} {h':ab} (ha:iF E h st xt s x=some (v,h')) (hs:au μ s s') (hx:au μ x x'):
 j7 P E base B μ h w (Builtin.append_ #[st,xt] ty #[s',x']) v h':=by
 unfold iF at ha;simp only[Option.bind_eq_some_iff]at ha;obtain⟨sd,bW,xd,Rf,ha⟩:=ha;split at ha
 ·rename_i elem l;simp only[Option.bind_eq_some_iff,ai,Bool.and_eq_true,beq_iff,aS,aG,Option.some.injEq]at ha;obtain⟨size,fL,bytes,Gf,z0,hz,⟨⟨⟨⟨Nk,jy⟩,hs0⟩,qE⟩,lH⟩,ha⟩:=ha;have es:s'= .slice none 0 0:=by cases hs;rfl
  subst es;have ex:x'= .int .i64 l:=hx.ax rfl;subst ex;obtain⟨ti,Uh,QM⟩:=BL hE Gf;obtain⟨n,hn⟩:∃n:Nat,l=n:=⟨l.toNat,om⟩;subst hn;simp only[Int.toNat_natCast]at qE lH ha;have Dp:n+1≤1099511627776:=Nat.le_trans (Nat.le_mul_of_pos_right _ om) lH;have hwl:IntKind.i64.wrap (n:Int)=n:=IntWalk.i64_in _ om;have hmul:((n:Int)*(ti.bytes:Int))≤1099511627776:=by
   rw[Uh];have h1:n*bytes≤(n+1)*(bytes+1):=Nat.mul_le_mul om om;have h2:=Int.ofNat_le.2 (Nat.le_trans h1 lH)
   rwa [Int.natCast_mul]at h2
  have VK:¬(((0+n:Nat):Int)>IntKind.i64.max):=by
   have e:IntKind.i64.max=9223372036854775807:=by decide
   rw[e];omega
  have gC:¬(Builtin.nextslicecap (0+n) 0*ti.bytes>2 ^ 48):=by
   have h1:=nextslicecap_le (n:=0+n) (c:=0) om;have h2:Builtin.nextslicecap (0+n) 0*ti.bytes≤16*(0+n)*bytes:=by rw[Uh];exact Nat.mul_le_mul_right _ h1
   have h3:16*(0+n)*bytes≤16*((n+1)*(bytes+1)):=by
    rw[Nat.mul_assoc];exact Nat.mul_le_mul_left _ (Nat.mul_le_mul om om)
   have e:(2:Nat) ^ 48=281474976710656:=by decide
   rw[e];omega
  have rk:=(au.cb μ (hE.zero elem z0 hz).2).cells;have Uf:Builtin.zeroCells z0.cells n=(aT z0.cells.toList n).toArray:=by
   apply Array.ext';unfold Builtin.zeroCells;rw[sj z0.cells n om]
  have BO:¬n*size=0:=by
   intro e;rcases Nat.mul_eq_zero.1 e with e|e<;>omega
  let nc:=(Question.appendCap (0+n) 0 elem).cut (w.tape w.drawn (Question.appendCap (0+n) 0 elem))
  have Gj:n≤nc:=by simp only[nc,Question.cut];omega
  have run:(Builtin.append_ #[st,xt] ty #[.slice none 0 0,.int .i64 (n:Int)]).run P w= .ok (.slice (some ⟨w.heap.size,0,none⟩) n nc) {w with heap:=w.heap.push (.cells ((aT z0.cells.toList n).toArray++Builtin.zeroCells z0.cells (nc - n)) elem (0,0)),drawn:=w.drawn+1}:=by
   unfold Builtin.append_;simp only[List.getElem?_toArray,List.getElem?_cons_zero,List.getElem?_cons_succ,Sem.run_bind,aH hE bW w,aH hE Rf w,Result.andThen_ok,fR hE fL w,Sem.run_pure];split
   ·simp only[if_true,Sem.run_bind,asInt,asIntOf,Sem.run_pure,Result.andThen_ok,hwl];rw[if_neg (show¬((n:Nat):Int)<0 by omega)];simp only[Sem.run_bind,QM w,Result.andThen_ok]
    rw[if_neg (show¬((n:Int)*(ti.bytes:Int)>2 ^ 48) by have e:(2:Int) ^ 48=281474976710656:=by decide
                                                       rw[e];omega)]
    simp only[Sem.run_bind,Sem.run_pure,Result.andThen_ok,Int.toNat_natCast];rw[if_neg (show¬(0+n≤0) by omega)];simp only[Sem.run_bind,QM w,Result.andThen_ok];rw[if_neg (fun hh=>VK hh.1)];simp only[Sem.run_bind,QM w,Result.andThen_ok];rw[if_neg gC];simp only[Sem.run_bind,run_choose,Question.forced,Bool.false_eq_true,if_false,Result.andThen_ok,QM _,run_askRoom,Builtin.firstCells,Sem.run_pure,Bool.not_true,BO,j6 hE hz _,Uf];simp only[nc,Nat.zero_add,Array.empty_append];rfl
   ·rename_i bc;cases xd<;>simp[kM]at Nk;exact absurd rfl (bc _)
  have hlen:(aT z0.cells.toList n).length=n*size:=by rw[dh];simp[jy]
  obtain⟨aU,q1,q2⟩:=uh (elem:=elem) H (rk.aT n) (rest:=Builtin.zeroCells z0.cells (nc - n)) Gj hlen (by rw[pb,jy]) (w.drawn+1);rw[ha]at q1 q2;exact⟨aU,_,_,run,q1,q2⟩
 ·cases ha
theorem GF (hE:bu P E) (H:bh E base B μ h w) {b:Builtin} {ts:Array TypeId} {args:List Value} {args':Array Value} {v:Value} {h':ab} (ty:TypeId) (ha:wi E base h b ts.toList args=some (v,h')) (hr:ay μ args args'.toList):
 ∃s,j7 P E base B μ h w s v h'∧∀cs,builtin b ts ty cs args'=(do pure (.value (←s))):=by
 obtain⟨ts⟩:=ts;obtain⟨args'⟩:=args';simp only at ha hr;unfold wi at ha;split at ha
 ·cases hr with
  |cons hs hr=>cases hr with
   |cons hx hr=>cases hr with
    |nil=>
     split at ha
     ·rename_i r hr;simp only[Option.some.injEq]at ha;exact⟨_,GC (ty:=ty) hE H (hr.trans (congrArg some ha)) hs hx,fun _=>rfl⟩
     ·exact⟨_,DL (ty:=ty) hE H ha hs hx,fun _=>rfl⟩
 ·cases hr with
  |cons hs hr=>cases hr with
   |cons hx hr=>cases hr with
    |nil=>exact⟨_,Nu (ty:=ty) hE H ha hs hx _ rfl,fun _=>rfl⟩
 ·cases hr with
  |cons hs hr=>
   simp only[Option.bind_eq_some_iff]at ha;obtain⟨d,hd,ha⟩:=ha;exact⟨_,Ki (ty:=ty) hE H ha hs _ rfl _ rfl ⟨d,hd⟩,fun _=>rfl⟩
 ·cases hr with
  |cons hs hr=>cases hr with
   |cons hx hr=>cases hr with
    |nil=>exact⟨_,GD (ty:=ty) hE H ha hs hx _ rfl,fun _=>rfl⟩
 ·cases ha
theorem pc {v:Value} {r:Nat} (h:nw v=some r):v= .pointer (some ⟨r,0,none⟩):=by
 unfold nw at h;split at h<;>simp at h;subst h;rfl
theorem cB.filter {l l':List MapEntry} (hs:cB μ l l') (p:Nat→Bool):cB μ (l.filter fun e=>p e.born) (l'.filter fun e=>p e.born):=by
 induction hs with
 |nil=>exact .nil
 |cons hk hv hb t ih=>
  simp only[List.filter_cons,hb];split
  ·exact .cons hk hv hb ih
  ·exact ih
theorem cB.DM {l l':List MapEntry} (hs:cB μ l l') (p:Nat→Bool):(l.all fun e=>p e.born)=(l'.all fun e=>p e.born):=by
 induction hs with
 |nil=>rfl
 |cons hk hv hb t ih=>simp only[List.all_cons,hb,ih]
theorem cB.find {l l':List MapEntry} (hs:cB μ l l') (p:Nat→Bool) {e:MapEntry} (he:l.find? (fun e=>p e.born)=some e):∃e',l'.find? (fun e=>p e.born)=some e'∧au μ e.key e'.key∧au μ e.val e'.val:=by
 induction hs with
 |nil=>simp at he
 |cons hk hv hb t ih=>
  simp only[List.find?_cons]at he ⊢;rw[←hb];split at he
  ·cases he;exact⟨_,rfl,hk,hv⟩
  ·exact ih he
theorem Nv (H:bh E base B μ h w) {isStr:Bool} {r:Nat} {m:MT} {v:Value} {h':ab} (ty:TypeId) (ha:IE h isStr r base=some (v,h')) (hb:μ r=some m):
 j7 P E base B μ h w (Instr.next (.pointer (some ⟨m.r,0,none⟩)) isStr ty) v h':=by
 unfold IE at ha;simp only[ai,aG]at ha;obtain⟨bt,ha⟩:=ha;obtain⟨o1,o2,k1,k2,k3⟩:=H.obj r m hb;split at ha
 ·rename_i s pos hg;rw[hg]at k1;cases k1;cases k3 with
  |jb gN=>
   have pW:=run_getObj_map (P:=P) k2 (fun _ _ _=>by simp);have IQ:=fun o=>cg (P:=P) (o:=o) k2 (fun _ _ _=>by simp);rw[bY]at ha;split at ha
   ·rename_i bH;rw[aS]at bH;simp only[Option.some.injEq,Prod.mk.injEq]at ha;obtain⟨rfl,rfl⟩:=ha;have st:=Step.put H hb bt hg rfl rfl (z8.set w m.r (.stringIter s (pos+(Utf8.decode s pos).2)) (H.lt hb)) (.jb gN);refine⟨μ,_,_,?_,.dC (by simpa[goInt]using ay.cons (.bool μ true) (.cons (.int μ .i64 pos) (.cons (.int μ .i32 (Utf8.decode s pos).1) .nil))),st⟩;unfold Instr.next;simp only[Sem.run_bind,pW,Result.andThen_ok];rw[if_pos bH];simp only[Sem.run_bind,IQ,Result.andThen_ok,Sem.run_pure];rfl
   ·rename_i bH;rw[aS]at bH;simp only[Option.some.injEq,Prod.mk.injEq]at ha;obtain⟨rfl,rfl⟩:=ha;refine⟨μ,_,w,?_,.dC (by simpa using ay.cons (.bool μ false) .nil),.refl H⟩;unfold Instr.next;simp only[Sem.run_bind,pW,Result.andThen_ok];rw[if_neg bH];rfl
 ·rename_i hg;rw[hg]at k1;cases k1;cases k3 with
  |l4 gN=>
   have pW:=run_getObj_map (P:=P) k2 (fun _ _ _=>by simp);simp only[Option.some.injEq,Prod.mk.injEq]at ha;obtain⟨rfl,rfl⟩:=ha;refine⟨μ,_,w,?_,.dC (by simpa using ay.cons (.bool μ false) .nil),.refl H⟩;unfold Instr.next;simp only[Sem.run_bind,pW,Result.andThen_ok];rfl
 ·rename_i mm since seen last hg;rw[hg]at k1;cases k1;cases k3 with
  |cy hk gN=>
   rename_i mk;have pW:=run_getObj_map (P:=P) k2 (fun _ _ _=>by simp);have IQ:=fun o=>cg (P:=P) (o:=o) k2 (fun _ _ _=>by simp);split at ha
   ·rename_i es clock Nw;obtain⟨p1,p2,j1,j2,j3⟩:=H.obj mm mk hk;rw[Nw]at j1;cases j1;cases j3 with
    |map hs=>
     rename_i bS;have GG:=run_getObj_map (P:=P) j2 (fun _ _ _=>by simp);simp only[ai]at ha;obtain⟨kp,ha⟩:=ha;have hlen:=hs.length;have VM:bS.isEmpty=es.isEmpty:=by
      cases es<;>cases h9:bS.toList<;>rw[h9]at hlen<;>simp at hlen
      ·have:bS= #[]:=by apply Array.ext';simp[h9]
       simp[this]
      ·have:bS.size≠0:=by have:=congrArg List.length h9;simp at this;omega
       simp[Array.isEmpty,this]
     have iY:(bS.all fun e=>decide (e.born≥last))=es.all (fun e=>Nat.ble last e.born):=by
      rw[←Array.all_toList,←hs.DM (fun n=>decide (n≥last))]
      congr 1
      funext e
      rw[Bool.eq_iff_iff,aG];simp
     have DN:(!seen.toArray.isEmpty&& !bS.isEmpty&&bS.all fun e=>decide (e.born≥last))=false:=by
      rw[VM,iY];have:seen.toArray.isEmpty=seen.isEmpty:=by cases seen<;>simp
      rw[this];simpa only[Bool.not_eq_true']using kp
     have qx:=hs.filter (fun n=> !seen.contains n);have Ad:(bS.filter fun e=> !seen.toArray.contains e.born).toList=bS.toList.filter (fun e=> !seen.contains e.born):=by
      simp
     split at ha
     ·rename_i hf;simp only[Option.some.injEq,Prod.mk.injEq]at ha;obtain⟨rfl,rfl⟩:=ha;rw[hf]at qx;have qE:(bS.filter fun e=> !seen.toArray.contains e.born)= #[]:=by
       apply Array.ext';rw[Ad];cases w9:bS.toList.filter (fun e=> !seen.contains e.born)with
       |nil=>rfl
       |cons x y=>rw[w9]at qx;cases qx
      refine⟨μ,_,w,?_,.dC (by simpa using ay.cons (.bool μ false) .nil),.refl H⟩;unfold Instr.next;simp only[Sem.run_bind,pW,GG,Result.andThen_ok,DN,Bool.false_eq_true,if_false,qE];simp[Question.forced]
     ·rename_i e hf;simp only[ai,aS,Option.some.injEq,Prod.mk.injEq]at ha;obtain⟨ae7,rfl,rfl⟩:=ha;rw[hf]at qx;cases w9:bS.toList.filter (fun e=> !seen.contains e.born)with
      |nil=>rw[w9]at qx;cases qx
      |cons e' rest=>
       rw[w9]at qx;cases qx with
       |cons q1 q2 q3 q4=>cases q4 with
        |nil=>
        have zF:(bS.filter fun e=> !seen.toArray.contains e.born)= #[e']:=by
         apply Array.ext';rw[Ad,w9]
        have hbe:e'.born<since:=by omega
        have st:=Step.put (o:=.cy (some mm) since (seen++[e.born]) clock) H hb bt hg rfl rfl (z8.set w m.r (.mapIter (some mk.r) since (seen.toArray.push e'.born) clock) (H.lt hb)) (by
         have:=iX.cy (μ:=μ) (h:=h.put r (.cy (some mm) since (seen++[e.born]) clock)) (base:=base) (b:=r) (m:=m) (since:=since) (last:=clock) (seen:=seen++[e.born]) hk gN;rw[q3]at this ⊢;simpa using this)
        refine⟨μ,_,_,?_,.dC (by simpa using ay.cons (.bool μ true) (.cons q1 (.cons q2 .nil))),st⟩;unfold Instr.next;simp only[Sem.run_bind,pW,GG,Result.andThen_ok,DN,Bool.false_eq_true,if_false,zF];have f1:(#[e'].filter fun x=>decide (x.born<since))= #[e']:=by simp[hbe]
        have f2:(#[e'].filter fun x=>decide (x.born≥since))= #[]:=by simp;omega
        simp only[f1,f2];simp[Question.forced,IQ]
     ·cases ha
   ·cases ha
 ·cases ha
theorem Kj (H:bh E base B μ h w) {r:Nat} {m:MT} {v:Value} (ha:oX h r=some v) (hb:μ r=some m):
 ∃v',au μ v v'∧(Instr.entry (.pointer (some ⟨m.r,0,none⟩))).run P w= .ok v' w:=by
 unfold oX at ha;obtain⟨o1,o2,k1,k2,k3⟩:=H.obj r m hb;split at ha
 ·rename_i mm since seen IF hg;rw[hg]at k1;cases k1;cases k3 with
  |cy hk gN=>
   rename_i mk;have pW:=run_getObj_map (P:=P) k2 (fun _ _ _=>by simp);split at ha
   ·rename_i es clock Nw;obtain⟨p1,p2,j1,j2,j3⟩:=H.obj mm mk hk;rw[Nw]at j1;cases j1;cases j3 with
    |map hs=>
     rename_i bS;have GG:=run_getObj_map (P:=P) j2 (fun _ _ _=>by simp);simp only[Option.bind_eq_some_iff,ai,beq_iff,Option.some.injEq]at ha;obtain⟨DB,h1,h2,e,h3,rfl⟩:=ha;obtain⟨e',q1,q2,q3⟩:=hs.find (fun n=>n==DB) h3;refine⟨_,.dC (by simpa using ay.cons q2 (.cons q3 .nil)),?_⟩;have Zn:seen.toArray.back? =some DB:=by simpa using h1
     have Zo:bS.find? (fun e=>e.born==DB)=some e':=by rw[←Array.find?_toList];exact q1
     subst h2;unfold Instr.entry;simp only[Sem.run_bind,pW,GG,Result.andThen_ok,Zn,Zo];simp
   ·cases ha
 ·cases ha
end
end Go.M
