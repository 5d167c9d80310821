/-
  Part 2 of the library that the proof leans on.
-/
import Derived.Test.YtmocpiopjkmnhaaGreatDoorL1
namespace Go.M
open Go
theorem zipFold:∀(l:List Value) (k off:Nat) (c:Array Value),off+k+l.length≤c.size→
 ((l.zipIdx k).foldl (fun cs p=>cs.setIfInBounds (off+p.2) p.1) c).size=c.size∧
 ∀i,((l.zipIdx k).foldl (fun cs p=>cs.setIfInBounds (off+p.2) p.1) c)[i]? =if off+k≤i∧i<off+k+l.length then l[i - (off+k)]? else c[i]?
 |[],k,off,c,h=>⟨rfl,fun i=>by rw[if_neg (by simp)];rfl⟩
 |v::l,k,off,c,h=>by
  simp only[List.length_cons]at h
  have ih:=zipFold l (k+1) off (c.setIfInBounds (off+k) v) (by simp;omega)
  simp only[List.zipIdx_cons,List.foldl_cons]
  refine⟨by rw[ih.1];simp,fun i=>?_⟩
  rw[ih.2 i]
  by_cases h1:off+(k+1)≤i∧i<off+(k+1)+l.length
  ·rw[if_pos h1,if_pos (by simp;omega)]
   have:i - (off+k)=(i - (off+(k+1)))+1:=by omega
   rw[this,List.getElem?_cons_succ]
  ·rw[if_neg h1]
   by_cases h2:i=off+k
   ·subst h2
    rw[if_pos (by simp),Array.getElem?_setIfInBounds_self_of_lt (by omega)]
    simp
   ·rw[if_neg (by simp;omega),Array.getElem?_setIfInBounds_ne (by omega)]
theorem fill_sim {μ:Emb} {place place':Nat→Option (Nat×Nat)} (hp:∀i p,place i=some p→place' i=some p):∀{ps ps':List (Nat×Value)} {cells cs:List Value} {cells':Array Value},
 fillA place cells ps=some cs→VRels μ cells cells'.toList→(ps.length=ps'.length)→(∀(k:Nat) q,ps[k]? =some q→∃v',ps'[k]? =some (q.1,v')∧VRel μ q.2 v')→
 ∃cs',Instr.fill place' cells' ps'=some cs'∧VRels μ cs cs'.toList
 |[],ps',cells,cs,cells',h,hr,hl,hq=>by
  cases ps' with
  |nil=>simp only[fillA,Option.some.injEq]at h;subst h;exact⟨cells',rfl,hr⟩
  |cons _ _=>simp at hl
 |(i,v)::ps,[],_,_,_,_,_,hl,_=>by simp at hl
 |(i,v)::ps,q'::ps',cells,cs,cells',h,hr,hl,hq=>by
  obtain⟨v',e1,hv⟩:=hq 0 (i,v) rfl
  simp only[List.getElem?_cons_zero,Option.some.injEq]at e1
  subst e1
  simp only at hv
  simp only[fillA,Option.bind_eq_some_iff,grd_some,beq_iff]at h
  obtain⟨⟨off,size⟩,h1,h2,c1,h3,h4⟩:=h
  simp only at h2
  obtain⟨s1,s2,s3⟩:=setN_some h3
  have hlen:=hr.length
  have hvl:=hv.cells_size
  have hin:off+v'.cells.toList.length≤cells'.size:=by
   simp at s1 hlen ⊢;omega
  have zf:=zipFold v'.cells.toList 0 off cells' (by omega)
  have hcells:VRels μ c1 (v'.cells.zipIdx.foldl (fun cs p=>cs.setIfInBounds (off+p.2) p.1) cells').toList:=by
   have e:v'.cells.zipIdx.foldl (fun cs (p:Value×Nat)=>cs.setIfInBounds (off+p.2) p.1) cells'=(v'.cells.toList.zipIdx 0).foldl (fun cs p=>cs.setIfInBounds (off+p.2) p.1) cells':=by
    rw[←Array.foldl_toList];simp
   rw[e]
   refine .of_get ?_ fun j a a' ha ha'=>?_
   ·simp only[Array.length_toList];rw[zf.1,s2];simpa using hlen
   ·rw[s3 j]at ha
    rw[Array.getElem?_toList,zf.2 j]at ha'
    simp only[Nat.add_zero]at ha'
    have hvl':v.cells.toList.length=v'.cells.toList.length:=by simpa using hvl
    by_cases hj:off≤j∧j<off+v.cells.toList.length
    ·simp only at ha
     rw[if_pos hj]at ha
     rw[if_pos (by rw[←hvl'];exact hj)]at ha'
     obtain⟨u,k1,k2⟩:=hv.cells.get ha
     rw[ha']at k1;cases k1;exact k2
    ·simp only at ha
     rw[if_neg hj]at ha
     rw[if_neg (by rw[←hvl'];exact hj)]at ha'
     obtain⟨u,k1,k2⟩:=hr.get ha
     simp[ha']at k1;subst k1;exact k2
  have ih:=fill_sim hp (ps':=ps') h4 hcells (by simpa using hl) (fun k q hk=>hq (k+1) q (by simpa using hk))
  obtain⟨cs',r1,r2⟩:=ih
  refine⟨cs',?_,r2⟩
  simp only[Instr.fill,hp _ _ h1]
  have hs:v'.cells.size=size:=by rw[←hvl];exact h2
  rw[if_neg]
  ·exact r1
  ·simp at hin
   simp[hs]
   omega
def PRel (μ:Emb) (ps ps':List (Nat×Value)):Prop:=ps.length=ps'.length∧∀(k:Nat) q,ps[k]? =some q→∃v',ps'[k]? =some (q.1,v')∧VRel μ q.2 v'
section
variable {P:Program} {E:Env} {μ:Emb}
theorem g_places (hE:EnvOk P E) (g:Field→Nat×Nat):∀(fs:List Field) (w:World),(∀f∈fs,∃n,E.size f.type=some n∧g f=(f.offset,n))→
 (fs.mapM (m:=Sem) fun f=>do pure (f.offset,←sizeOf f.type)).run P w= .ok (fs.map g) w
 |[],w,_=>by simp
 |f::fs,w,h=>by
  obtain⟨n,h1,h2⟩:=h f (by simp)
  have ih:=g_places hE g fs w (fun x hx=>h x (by simp[hx]))
  simp only[List.mapM_cons,Sem.run_bind,g_size hE h1 w,Result.andThen_ok,Sem.run_pure,ih,List.map_cons,h2]
theorem g_build (hE:EnvOk P E) {t:TypeId} {ps ps':List (Nat×Value)} {v:Value} (h:abuild E t ps=some v) (hp:PRel μ ps ps'):∃v',VRel μ v v'∧Gives P (Instr.build t ps'.toArray) v':=by
 unfold abuild at h
 simp only[Option.bind_eq_some_iff]at h
 obtain⟨d,h1,z,h2,h3⟩:=h
 have hz:=VRel.refl_plain μ (hE.zero t z h2).2
 have hzc:VRels μ z.cells.toList z.cells.toList:=hz.cells
 split at h3
 ·rename_i fields
  simp only[grd_some,Option.bind_eq_some_iff,Option.some.injEq]at h3
  obtain⟨hall,cs,h4,rfl⟩:=h3
  have hfs:∀f∈fields.toList,∃n,E.size f.type=some n∧(fun f:Field=>(f.offset,(E.size f.type).getD 0)) f=(f.offset,n):=by
   intro f hf
   rw[Array.all_eq_true]at hall
   obtain⟨i,hi,rfl⟩:=List.mem_iff_getElem.1 hf
   have:=hall i (by simpa using hi)
   obtain⟨n,hn⟩:=Option.isSome_iff_exists.1 this
   have hn':E.size (fields.toList[i]).type=some n:=by simpa using hn
   exact⟨n,hn',by simp only[hn',Option.getD_some]⟩
  have hplace:∀i p,placeF E fields i=some p→((fields.toList.map (fun f:Field=>(f.offset,(E.size f.type).getD 0))).toArray)[i]? =some p:=by
   intro i p hi
   unfold placeF at hi
   simp only[Option.bind_eq_some_iff,Option.some.injEq]at hi
   obtain⟨fd,k1,n,k2,rfl⟩:=hi
   simp[k1,k2]
  obtain⟨cs',q1,q2⟩:=fill_sim (μ:=μ) hplace (ps':=ps') h4 hzc hp.1 hp.2
  refine⟨.agg cs',.agg_of (by simpa using q2),fun w=>?_⟩
  have hm:=g_places hE (fun f:Field=>(f.offset,(E.size f.type).getD 0)) fields.toList w hfs
  unfold Instr.build
  simp only[Sem.run_bind,g_zero hE h2 w,Result.andThen_ok,g_under hE h1 w]
  have hm2:(fields.mapM (m:=Sem) fun f=>do pure (f.offset,←sizeOf f.type)).run P w= .ok (fields.toList.map (fun f:Field=>(f.offset,(E.size f.type).getD 0))).toArray w:=by
   rw[Array.mapM_eq_mapM_toList]
   simp only[Sem.run_map,hm,Result.andThen_ok]
  simp only[hm2,Result.andThen_ok,q1,Sem.run_pure]
 ·rename_i len elem
  simp only[Option.bind_eq_some_iff,Option.some.injEq]at h3
  obtain⟨n,h3,cs,h4,rfl⟩:=h3
  obtain⟨cs',q1,q2⟩:=fill_sim (μ:=μ) (place':=fun i=>some (i*n,n)) (fun _ _ h=>h) (ps':=ps') h4 hzc hp.1 hp.2
  refine⟨.agg cs',.agg_of (by simpa using q2),fun w=>?_⟩
  unfold Instr.build
  simp only[Sem.run_bind,g_zero hE h2 w,Result.andThen_ok,g_under hE h1 w,g_size hE h3 w,q1,Sem.run_pure]
 ·cases h3
theorem gives_pureV {s:Sem Value} {v:Value} (h:pureV s=some v):Gives P s v:=by
 intro w
 cases s<;>simp[pureV]at h
 subst h;rfl
theorem eqGuard_ok (hE:EnvOk P E) {op:BinOp} {t:TypeId} {x y:Operand} {a b a' b':Value} (ha:VRel μ a a') (hb:VRel μ b b')
 (hg:eqCond E t x y a b=true):Gives P (eqGuard op t x y a' b') ():=by
 intro w
 unfold eqGuard
 cases op<;>(try rfl)
 all_goals
  simp only[Bool.not_true,Bool.false_eq_true,if_false]
  split
  ·cases ha with
   |lit _=>cases hb with
    |lit _=>
     simp only[eqCond]at hg
     cases x<;>cases y<;>simp[isConstO]at hg<;>simp
    |opq _=>simp[eqCond]at hg
   |opq _=>simp[eqCond]at hg
  ·rename_i u1 u2
   cases ha with
   |lit hh=>simp[plain1]at hh
   |agg h1 h2=>cases hb with
    |lit hh=>simp[plain1]at hh
    |agg k1 k2=>
     simp only[eqCond]at hg
     simp[run_program,(hE.eqOk t hg).1]
    |opq hh=>rcases hh with hh|⟨_,_,hh⟩<;>cases hh
   |opq hh=>rcases hh with hh|⟨_,_,hh⟩<;>cases hh
  ·rfl
theorem g_bin (hE:EnvOk P E) {op:BinOp} {t:TypeId} {x y:Operand} {a b a' b' v:Value} (h:abin E op t x y a b=some v) (ha:VRel μ a a') (hb:VRel μ b b'):
 ∃v',VRel μ v v'∧Gives P (do eqGuard op t x y a' b';binOp op t a' b') v':=by
 unfold abin at h
 split at h
 ·cases ha.inv_scalar rfl;cases hb.inv_scalar rfl
  rename_i k n k' n'
  have hs:scalar v=true:=by
   simp only[binOp]at h
   have:∀s:Sem Value,pureV s=some v→(∃u,s= .pure u∧scalar u=true)→scalar v=true:=by
    rintro s hs ⟨u,rfl,hu⟩;simp[pureV]at hs;subst hs;exact hu
   cases op<;>simp only at h<;>(try split at h)<;>
    first
    |(simp[pureV,stuck]at h;done)
    |(simp only[pureV,Op.intArith,Op.intBits,Op.intCmp,Pure.pure,Option.some.injEq]at h;subst h;rfl)
    |(unfold Op.intDiv at h;split at h
      ·simp[runtimePanic,pureV,program,bind,Sem.bind]at h
      ·simp only[pureV,Pure.pure,Option.some.injEq]at h;subst h;rfl)
    |(unfold Op.shift at h;split at h
      ·simp[runtimePanic,pureV,program,bind,Sem.bind]at h
      ·simp only[pureV,Pure.pure,Option.some.injEq]at h;subst h;rfl)
  refine⟨v,.of_scalar μ hs,fun w=>?_⟩
  have hg:=eqGuard_ok hE (μ:=μ) (op:=op) (t:=t) (x:=x) (y:=y) (.int μ k n) (.int μ k' n') rfl w
  simp only[Sem.run_bind,hg,Result.andThen_ok]
  exact gives_pureV h w
 ·cases ha.inv_scalar rfl;cases hb.inv_scalar rfl
  rename_i s r
  have hg:∀w,(eqGuard op t x y (.string s) (.string r)).run P w= .ok () w:=eqGuard_ok hE (μ:=μ) (.string μ s) (.string μ r) rfl
  have et:∀q:ByteArray,q.toList=q.data.toList:=fun q=>ByteArray.toList_eq q
  split at h<;>(first|(simp only[Option.some.injEq]at h;subst h;refine⟨_,.lit rfl,fun w=>?_⟩;simp only[Sem.run_bind,hg w,Result.andThen_ok];simp[binOp,Op.stringOp,et])|skip)
  ·simp only[grd_some,decide_eq_true_eq,Option.some.injEq]at h
   obtain⟨h1,rfl⟩:=h
   refine⟨_,.lit rfl,fun w=>?_⟩
   simp only[Sem.run_bind,hg w,Result.andThen_ok]
   have e:IntKind.i64.max=9223372036854775807:=by decide
   simp only[binOp,Op.stringOp,e]
   rw[if_neg (by omega)]
   rfl
  ·cases h
 ·rename_i hni hns
  simp only[grd_some]at h
  obtain⟨h1,h2⟩:=h
  have hg:=eqGuard_ok hE (op:=op) (t:=t) (x:=x) (y:=y) ha hb h1
  have key:∀r,aeq E 100 t a b=some r→Gives P (Op.equal t a' b') r:=fun r hr=>by
   unfold Op.equal Op.maxDepth
   exact g_aeq hE 100 10000 t a b a' b' r (by omega) hr ha hb
  have nofit:∀(w:World) r,Gives P (Op.equal t a' b') r→(binOp .eql t a' b').run P w= .ok (.bool r) w∧(binOp .neq t a' b').run P w= .ok (.bool !r) w:=by
   intro w r hr
   have hh:(∀k n k' n',¬(a'= .int k n∧b'= .int k' n'))∧(∀s r,¬(a'= .string s∧b'= .string r)):=by
    refine⟨?_,?_⟩
    ·rintro k n k' n' ⟨rfl,rfl⟩
     cases ha with
     |opq hh=>rcases hh with hh|⟨_,_,hh⟩<;>cases hh
     |lit _=>cases hb with
      |opq hh=>rcases hh with hh|⟨_,_,hh⟩<;>cases hh
      |lit _=>exact hni _ _ _ _ rfl rfl
    ·rintro s r ⟨rfl,rfl⟩
     cases ha with
     |opq hh=>rcases hh with hh|⟨_,_,hh⟩<;>cases hh
     |lit _=>cases hb with
      |opq hh=>rcases hh with hh|⟨_,_,hh⟩<;>cases hh
      |lit _=>exact hns _ _ rfl rfl
   have hfl:(∀k n k' n',¬(a'= .float k n∧b'= .float k' n'))∧(∀k x y k' x' y',¬(a'= .complex k x y∧b'= .complex k' x' y')):=by
    refine⟨?_,?_⟩
    ·rintro k n k' n' ⟨rfl,rfl⟩;cases ha with|lit hx=>simp[plain1]at hx|opq hh=>rcases hh with hh|⟨_,_,hh⟩<;>cases hh
    ·rintro k x y k' x' y' ⟨rfl,rfl⟩;cases ha with|lit hx=>simp[plain1]at hx|opq hh=>rcases hh with hh|⟨_,_,hh⟩<;>cases hh
   have hr':=hr w
   cases a'<;>cases b'<;>
    first
    |exact absurd ⟨rfl,rfl⟩ (hh.1 _ _ _ _)
    |exact absurd ⟨rfl,rfl⟩ (hh.2 _ _)
    |exact absurd ⟨rfl,rfl⟩ (hfl.1 _ _ _ _)
    |exact absurd ⟨rfl,rfl⟩ (hfl.2 _ _ _ _ _ _)
    |(simp only[binOp];simp only[Sem.run_bind,hr',Result.andThen_ok,Sem.run_pure];exact⟨trivial,trivial⟩)
  split at h2
  ·simp only[Option.bind_eq_some_iff,Option.some.injEq]at h2
   obtain⟨r,h3,rfl⟩:=h2
   exact⟨_,.bool μ r,fun w=>by simp only[Sem.run_bind,hg w,Result.andThen_ok];exact(nofit w r (key r h3)).1⟩
  ·simp only[Option.bind_eq_some_iff,Option.some.injEq]at h2
   obtain⟨r,h3,rfl⟩:=h2
   exact⟨_,.bool μ _,fun w=>by simp only[Sem.run_bind,hg w,Result.andThen_ok];exact(nofit w r (key r h3)).2⟩
  ·cases h2
end
end Go.M
namespace Go.M
open Go
theorem addr_add (r o n:Nat):(⟨r,o,none⟩:Addr).add n=⟨r,o+n,none⟩:=by
 unfold Addr.add
 by_cases h:n=0
 ·simp[h]
 ·simp[h]
def ORelV (μ:Emb) (x x':Option Value):Prop:=match x,x' with
 |none,none=>True
 |some v,some v'=>VRel μ v v'
 |_,_=>False
theorem boundV_some {dflt y:Nat} {x:Option Value} {n:Nat} (h:boundV dflt y x=some n):(x=none∧n=dflt)∨(∃k i,x=some (.int k i)∧0≤i∧i≤y∧n=i.toNat):=by
 unfold boundV at h
 split at h
 ·simp at h;exact .inl ⟨rfl,h.symm⟩
 ·simp only[grd_some,Bool.and_eq_true,decide_eq_true_eq,Option.some.injEq]at h
  exact .inr ⟨_,_,rfl,h.1.1,h.1.2,h.2.symm⟩
 ·cases h
theorem g_sliceBound {P:Program} {k:IntKind} {i:Int} {y:Nat} (h0:0≤i) (h1:i≤y) (code:BoundsCode):Gives P (Instr.sliceBound (.int k i) y code) i.toNat:=by
 intro w
 simp[Instr.sliceBound,asIntOf,h0,h1]
theorem g_sliceBounds {P:Program} {μ:Emb} (isSlice:Bool) {len cap cap':Nat} (hlc:len≤cap') {lo hi mx lo' hi' mx':Option Value} {m h l:Nat}
 (hm:boundV cap len mx=some m) (hh:boundV len (bif mx.isSome then m else len) hi=some h) (hg:(hi.isSome||mx.isNone)=true) (hl:boundV 0 h lo=some l)
 (rl:ORelV μ lo lo') (rh:ORelV μ hi hi') (rm:ORelV μ mx mx'):
 Gives P (Instr.sliceBounds isSlice len cap' lo' hi' mx') (l,h,if mx.isSome then m else cap')∧l≤h∧h≤len∧(mx.isSome=true→m≤len∧h≤m)∧(mx=none→m=cap):=by
 have key:∀{x x':Option Value} {k:IntKind} {i:Int},x=some (.int k i)→ORelV μ x x'→x'=some (.int k i):=by
  intro x x' k i hx hr
  subst hx
  cases x' with
  |none=>exact hr.elim
  |some v'=>rw[VRel.inv_scalar hr rfl]
 have nokey:∀{x x':Option Value},x=none→ORelV μ x x'→x'=none:=by
  intro x x' hx hr
  subst hx
  cases x' with
  |none=>rfl
  |some v'=>exact hr.elim
 have hlo:l≤h:=by
  rcases boundV_some hl with⟨_,rfl⟩|⟨k,i,_,h0,h1,rfl⟩<;>omega
 rcases boundV_some hm with⟨em,rfl⟩|⟨k,i,em,m0,m1,rfl⟩
 ·have em':=nokey em rm
  subst em;subst em'
  simp only[Option.isSome_none,cond_false]at hh
  rcases boundV_some hh with⟨eh,rfl⟩|⟨k2,i2,eh,p0,p1,rfl⟩
  ·have eh':=nokey eh rh
   subst eh;subst eh'
   refine⟨fun w=>?_,hlo,Nat.le_refl _,fun h=>by simp at h,fun _=>rfl⟩
   rcases boundV_some hl with⟨el,rfl⟩|⟨k3,i3,el,q0,q1,rfl⟩
   ·have el':=nokey el rl;subst el;subst el'
    simp[Instr.sliceBounds]
   ·have el':=key el rl;subst el;subst el'
    simp[Instr.sliceBounds,g_sliceBound q0 q1 _ w]
  ·have eh':=key eh rh
   subst eh;subst eh'
   refine⟨fun w=>?_,hlo,by omega,fun h=>by simp at h,fun _=>rfl⟩
   rcases boundV_some hl with⟨el,rfl⟩|⟨k3,i3,el,q0,q1,rfl⟩
   ·have el':=nokey el rl;subst el;subst el'
    simp[Instr.sliceBounds,g_sliceBound p0 (show i2≤(cap':Int) by omega) _ w]
   ·have el':=key el rl;subst el;subst el'
    simp[Instr.sliceBounds,g_sliceBound p0 (show i2≤(cap':Int) by omega) _ w,g_sliceBound q0 q1 _ w]
 ·have em':=key em rm
  subst em;subst em'
  simp only[Option.isSome_some,cond_true]at hh
  rcases boundV_some hh with⟨eh,rfl⟩|⟨k2,i2,eh,p0,p1,rfl⟩
  ·subst eh;simp at hg
  ·have eh':=key eh rh
   subst eh;subst eh'
   refine⟨fun w=>?_,hlo,by omega,fun _=>⟨by omega,by omega⟩,fun h=>by simp at h⟩
   rcases boundV_some hl with⟨el,rfl⟩|⟨k3,i3,el,q0,q1,rfl⟩
   ·have el':=nokey el rl;subst el;subst el'
    simp[Instr.sliceBounds,g_sliceBound m0 (show i≤(cap':Int) by omega) _ w,g_sliceBound p0 p1 _ w]
   ·have el':=key el rl;subst el;subst el'
    simp[Instr.sliceBounds,g_sliceBound m0 (show i≤(cap':Int) by omega) _ w,g_sliceBound p0 p1 _ w,g_sliceBound q0 q1 _ w]
section
variable {P:Program} {E:Env} {μ:Emb}
theorem g_sliceAt (hE:EnvOk P E) {t:TypeId} {x x' v:Value} {lo hi mx lo' hi' mx':Option Value} (h:asliceV E t x lo hi mx=some v) (hx:VRel μ x x') (rl:ORelV μ lo lo') (rh:ORelV μ hi hi') (rm:ORelV μ mx mx'):
 ∃v',VRel μ v v'∧Gives P (Instr.sliceAt t x' lo' hi' mx') v':=by
 unfold asliceV at h
 simp only[Option.bind_eq_some_iff]at h
 obtain⟨d,hd,h⟩:=h
 split at h
 ·rename_i s
  cases hx.inv_scalar rfl
  simp only[grd_some,Option.bind_eq_some_iff,Option.some.injEq]at h
  obtain⟨hm,hh,h1,ll,h2,rfl⟩:=h
  have em:mx=none:=by simpa using hm
  subst em
  have em':mx'=none:=by cases mx' with
   |none=>rfl
   |some v'=>exact rm.elim
  subst em'
  have gb:=(g_sliceBounds (P:=P) (μ:=μ) false (cap':=s.size) (Nat.le_refl _) (cap:=s.size) (mx:=none) (mx':=none) rfl (by simpa using h1) (by simp) h2 rl rh trivial).1
  refine⟨_,.string μ _,fun w=>?_⟩
  simp[Instr.sliceAt,g_under hE hd w,Instr.slice,gb w]
 ·cases hx with
  |lit _=>
  simp only[Option.bind_eq_some_iff,grd_some,Option.some.injEq]at h
  obtain⟨size,hs,m,hm,hh,h1,hg,ll,h2,rfl⟩:=h
  obtain⟨gb,q1,q2,q3,q4⟩:=g_sliceBounds (P:=P) (μ:=μ) true (cap':=0) (Nat.le_refl _) hm h1 hg h2 rl rh rm
  refine⟨_,.lit rfl,fun w=>?_⟩
  have e0:hh=0:=by omega
  have e1:ll=0:=by omega
  subst e0;subst e1
  have e2:(if mx.isSome=true then m else 0)=0:=by
   cases hms:mx.isSome with
   |true=>have:=(q3 hms).1;simp;omega
   |false=>simp
  simp only[Instr.sliceAt,Sem.run_bind,g_under hE hd w,Result.andThen_ok,Instr.slice,gb w,g_size hE hs w,Sem.run_pure,e2]
  simp
 ·rename_i elem b o z len cap
  simp only[Option.bind_eq_some_iff,grd_some,beq_iff,Option.some.injEq]at h
  obtain⟨size,hs,e,m,hm,hh,h1,hg,ll,h2,rfl⟩:=h
  subst e
  have main:∀(a':Addr) (cap':Nat),x'= .slice (some a') len cap'→len≤cap'→∃m',Gives P (Instr.sliceAt t x' lo' hi' mx') (.slice (some (if m'=ll then a' else a'.add (ll*size))) (hh - ll) (m' - ll))∧
   (m'=if mx.isSome then m else cap')∧ll≤hh∧hh≤len∧(mx.isSome=true→m≤len∧hh≤m)∧(mx=none→m=cap):=by
   intro a' cap' ex hlc
   obtain⟨gb,q1,q2,q3,q4⟩:=g_sliceBounds (P:=P) (μ:=μ) true hlc hm h1 hg h2 rl rh rm
   refine⟨if mx.isSome then m else cap',fun w=>?_,rfl,q1,q2,q3,q4⟩
   subst ex
   simp only[Instr.sliceAt,Sem.run_bind,g_under hE hd w,Result.andThen_ok,Instr.slice,gb w,g_size hE hs w,Sem.run_pure]
   congr 2
   by_cases hz:(if mx.isSome=true then m else cap')=ll
   ·rw[if_pos hz,if_pos hz]
   ·rw[if_neg hz,if_neg hz];rfl
  cases hx with
  |lit hh=>simp[plain1]at hh
  |slice hb k1 k2 k3 k4=>
   rename_i cap' mt
   obtain⟨m',g1,e1,q1,q2,q3,q4⟩:=main _ _ rfl k2
   refine⟨_,?_,g1⟩
   by_cases hz:m'=ll
   ·rw[if_pos hz]
    have e2:hh - ll=0:=by
     cases hms:mx.isSome with
     |true=>have:=q3 hms;rw[hms]at e1;simp at e1;omega
     |false=>rw[hms]at e1;simp at e1;omega
    rw[e2,show m' - ll=0 by omega]
    simp only[bif_eq]
    split<;>exact .slice0 fun _=>⟨_,hb⟩
   ·rw[if_neg hz,addr_add]
    have hmc:m≠ll:=by
     intro e2
     cases hms:mx.isSome with
     |true=>rw[hms]at e1;simp at e1;omega
     |false=>
      have:=q4 (by simpa using hms)
      rw[hms]at e1;simp at e1
      have:=k3 (by omega);omega
    simp only[bif_eq,beq_iff,if_neg hmc]
    have hm'c:m'≤cap':=by
     cases hms:mx.isSome with
     |true=>have:=q3 hms;rw[hms]at e1;simp at e1;omega
     |false=>rw[hms]at e1;simp at e1;omega
    have hlm:ll≤m':=by
     cases hms:mx.isSome with
     |true=>have:=q3 hms;rw[hms]at e1;simp at e1;omega
     |false=>rw[hms]at e1;simp at e1;omega
    have e3:mt.s+o+ll*size=mt.s+(o+ll*size):=by omega
    rw[e3]
    refine .slice hb ?_ ?_ ?_ ?_
    ·cases hms:mx.isSome with
     |true=>have:=q3 hms;omega
     |false=>have:=q4 (by simpa using hms);omega
    ·cases hms:mx.isSome with
     |true=>have:=q3 hms;rw[hms]at e1;simp at e1;omega
     |false=>rw[hms]at e1;simp at e1;omega
    ·intro e4
     cases hms:mx.isSome with
     |true=>have:=q3 hms;rw[hms]at e1;simp at e1;omega
     |false=>
      have:=q4 (by simpa using hms)
      rw[hms]at e1;simp at e1
      have:=k3 (by omega);omega
    ·have:ll*size+(m' - ll)*size=m'*size:=by rw[←Nat.add_mul];congr 1;omega
     have:m'*size≤cap'*size:=Nat.mul_le_mul_right _ hm'c
     omega
  |slice0 hb=>
   rename_i a'
   obtain⟨m',g1,e1,q1,q2,q3,q4⟩:=main a' 0 rfl (Nat.le_refl _)
   refine⟨_,?_,g1⟩
   have hm0:m'=0:=by
    cases hms:mx.isSome with
    |true=>have:=q3 hms;rw[hms]at e1;simp at e1;omega
    |false=>rw[hms]at e1;simp at e1;omega
   have hl0:ll=0:=by omega
   have hh0:hh=0:=by omega
   subst hm0;subst hl0;subst hh0
   simp only[if_true,Nat.sub_zero]
   simp only[bif_eq]
   have hk:m≠0→_:=fun hc=>hb (by
    cases hms:mx.isSome with
    |true=>have:=q3 hms;omega
    |false=>have:=q4 (by simpa using hms);omega)
   split
   ·exact .slice0 fun hc=>hk (by omega)
   ·exact .slice0 fun hc=>hk (by omega)
 ·cases h
theorem g_indexAddr (hE:EnvOk P E) {t:TypeId} {x x' i i' v:Value} (h:aindexAddr E t x i=some v) (hx:VRel μ x x') (hi:VRel μ i i'):∃v',VRel μ v v'∧Gives P (Instr.indexAt t x' i') v':=by
 unfold aindexAddr at h
 simp only[Option.bind_eq_some_iff]at h
 obtain⟨d,hd,n,hn,h⟩:=h
 have ei:∃k,i= .int k n:=by
  unfold asI at hn;split at hn<;>simp at hn;subst hn;exact⟨_,rfl⟩
 obtain⟨k,rfl⟩:=ei
 cases hi.inv_scalar rfl
 split at h
 ·rename_i len elem b o
  simp only[Option.bind_eq_some_iff,grd_some,Bool.and_eq_true,decide_eq_true_eq,Option.some.injEq]at h
  obtain⟨size,hs,⟨h0,h1⟩,rfl⟩:=h
  obtain⟨m,hb,rfl⟩:=hx.inv_ptr
  refine⟨.pointer (some ⟨m.r,m.s+(o+n.toNat*size),none⟩),.ptr hb,fun w=>?_⟩
  simp[Instr.indexAt,asIntOf,g_under hE hd w,Instr.sureAddr,h0,h1,g_size hE hs w,addr_add,Nat.add_assoc]
 ·rename_i elem b o z len cap
  simp only[Option.bind_eq_some_iff,grd_some,Bool.and_eq_true,decide_eq_true_eq,Option.some.injEq]at h
  obtain⟨size,hs,⟨h0,h1⟩,rfl⟩:=h
  cases hx with
  |lit hh=>simp[plain1]at hh
  |slice hb k1 k2 k3 k4=>
   rename_i cap' m
   refine⟨.pointer (some ⟨m.r,m.s+(o+n.toNat*size),none⟩),.ptr hb,fun w=>?_⟩
   simp[Instr.indexAt,asIntOf,g_under hE hd w,h0,h1,g_size hE hs w,addr_add,Nat.add_assoc]
  |slice0=>exact absurd h1 (by omega)
 ·cases h
theorem g_index (hE:EnvOk P E) {t:TypeId} {x x' i i' v:Value} (h:aindex E t x i=some v) (hx:VRel μ x x') (hi:VRel μ i i'):∃v',VRel μ v v'∧Gives P (Instr.index t x' i') v':=by
 unfold aindex at h
 simp only[Option.bind_eq_some_iff]at h
 obtain⟨d,hd,n,hn,h⟩:=h
 have ei:∃k,i= .int k n:=by
  unfold asI at hn;split at hn<;>simp at hn;subst hn;exact⟨_,rfl⟩
 obtain⟨k,rfl⟩:=ei
 cases hi.inv_scalar rfl
 split at h
 ·rename_i len elem cs
  simp only[Option.bind_eq_some_iff,grd_some,Bool.and_eq_true,decide_eq_true_eq]at h
  obtain⟨size,hs,⟨h0,h1⟩,h2⟩:=h
  obtain⟨cs',rfl,hr⟩:=hx.inv_agg
  obtain⟨v',q1,q2⟩:=g_part hE (μ:=μ) h2 hr
  refine⟨v',q1,fun w=>?_⟩
  have e:cs'.toList.toArray=cs':=by simp
  rw[e]at q2
  simp only[Instr.index,asIntOf,Sem.run_bind,Sem.run_pure,Result.andThen_ok,g_under hE hd w]
  rw[if_pos ⟨h0,h1⟩]
  simp only[Sem.run_bind,g_size hE hs w,Result.andThen_ok,q2 w]
 ·rename_i s
  simp only[grd_some,decide_eq_true_eq,Option.bind_eq_some_iff,Option.some.injEq]at h
  obtain⟨h0,b,hb,rfl⟩:=h
  cases hx.inv_scalar rfl
  refine⟨_,.int μ _ _,fun w=>?_⟩
  have e:s[n.toNat]? =some b:=by
   have:=(List.getElem?_eq_some_iff.1 hb)
   obtain⟨hlt,hv⟩:=this
   have hlt':n.toNat<s.size:=by simpa using hlt
   rw[getElem?_pos s n.toNat hlt']
   simp only[Option.some.injEq]
   rw[←hv];rfl
  simp only[Instr.index,asIntOf,Sem.run_bind,Sem.run_pure,Result.andThen_ok,g_under hE hd w]
  rw[if_pos h0,e]
  rfl
 ·cases h
theorem g_conv (hE:EnvOk P E) {s d:TypeId} {x x' v:Value} (h:aconv E s d x=some v) (hx:VRel μ x x'):∃v',VRel μ v v'∧Gives P (convert s d x') v':=by
 unfold aconv at h
 simp only[Option.bind_eq_some_iff]at h
 obtain⟨ds,h1,dd,h2,h⟩:=h
 split at h
 ·rename_i k k' n
  cases hx.inv_scalar rfl
  simp only[Option.some.injEq]at h;subst h
  refine⟨_,.int μ _ _,fun w=>?_⟩
  unfold convert
  simp only[Sem.run_bind,g_under hE h1 w,g_under hE h2 w,Result.andThen_ok]
  rfl
 ·rename_i str
  cases hx.inv_scalar rfl
  simp only[Option.some.injEq]at h;subst h
  refine⟨_,.string μ _,fun w=>?_⟩
  unfold convert
  simp only[Sem.run_bind,g_under hE h1 w,g_under hE h2 w,Result.andThen_ok]
  cases ds<;>rfl
 ·cases h
theorem g_builtP (hE:EnvOk P E) {b:Builtin} {ts:Array TypeId} {args:List Value} {args':Array Value} {v:Value} (ty:TypeId) (cs:Array Bool) (h:abuiltP E b ts.toList args=some v) (ha:VRels μ args args'.toList):
 ∃v',VRel μ v v'∧Gives P (builtin b ts ty cs args') (.value v'):=by
 obtain⟨ts⟩:=ts
 obtain⟨args'⟩:=args'
 simp only at h ha
 unfold abuiltP at h
 split at h
 ·rename_i t ts x xs
  cases ha with
  |cons hx _=>
  simp only[Option.bind_eq_some_iff]at h
  obtain⟨d,hd,h⟩:=h
  split at h
  ·cases hx.inv_scalar rfl
   simp only[Option.some.injEq]at h;subst h
   exact⟨_,.int μ _ _,fun w=>by simp[builtin,Builtin.len_,g_under hE hd w,goInt]⟩
  ·simp only[Option.some.injEq]at h;subst h
   exact⟨_,.int μ _ _,fun w=>by simp[builtin,Builtin.len_,g_under hE hd w,goInt]⟩
  ·simp only[Option.some.injEq]at h;subst h
   cases hx with
   |lit hh=>
    rename_i a n c
    have:∃q,a=none∧n=0∧c=0∧q=0:=by
     unfold plain1 at hh;split at hh<;>simp_all
    obtain⟨_,rfl,rfl,rfl,_⟩:=this
    exact⟨_,.int μ _ _,fun w=>by simp[builtin,Builtin.len_,g_under hE hd w,goInt]⟩
   |slice=>exact⟨_,.int μ _ _,fun w=>by simp[builtin,Builtin.len_,g_under hE hd w,goInt]⟩
   |slice0=>exact⟨_,.int μ _ _,fun w=>by simp[builtin,Builtin.len_,g_under hE hd w,goInt]⟩
  ·simp only[Option.some.injEq]at h;subst h
   cases hx
   exact⟨_,.int μ _ _,fun w=>by simp[builtin,Builtin.len_,g_under hE hd w,goInt]⟩
  ·cases h
 ·simp only[Option.some.injEq]at h;subst h
  cases ha with
  |cons hx ha=>cases ha with
   |cons hy ha=>cases ha with
    |nil=>
     cases hx.inv_scalar rfl;cases hy.inv_scalar rfl
     exact⟨_,.int μ _ _,fun w=>by simp[builtin,Builtin.max_,Builtin.max2]⟩
 ·simp only[Option.some.injEq]at h;subst h
  cases ha with
  |cons hx ha=>cases ha with
   |cons hy ha=>cases ha with
    |nil=>
     cases hx.inv_scalar rfl;cases hy.inv_scalar rfl
     exact⟨_,.int μ _ _,fun w=>by simp[builtin,Builtin.min_,Builtin.min2]⟩
 ·rename_i t ts
  simp only[Option.bind_eq_some_iff]at h
  obtain⟨d,hd,h⟩:=h
  split at h
  ·simp only[Option.some.injEq]at h;subst h
   cases ha with
   |cons hx ha=>cases ha with
    |nil=>
     cases hx with
     |lit hh=>exact⟨_,.int μ _ _,fun w=>by simp[builtin,Builtin.cap_,g_under hE hd w,goInt]⟩
  ·cases h
 ·cases h
end
end Go.M
namespace Go.M
open Go
def GlobOk (E:Env) (μ:Emb):Prop:=∀g,E.glob g=true→∃m,μ g=some m∧m.r=g∧m.s=0
section
variable {P:Program} {E:Env} {μ:Emb} {f:AF} {a:Act}
theorem ev_rel (hg:GlobOk E μ) (hf:FRel μ f a.tmps) {x:Operand} {v:Value} (h:ev E f x=some v):VRel μ v (a.eval x):=by
 cases x with
 |tmp t=>simp only[ev,Option.some.injEq]at h;subst h;exact hf.get t
 |const c=>simp only[ev,grd_some,Option.some.injEq]at h;obtain⟨h1,rfl⟩:=h;exact .refl_plain μ h1
 |global g=>
  simp only[ev,grd_some,Option.some.injEq]at h
  obtain⟨h1,rfl⟩:=h
  obtain⟨m,h2,h3,h4⟩:=hg g h1
  have:=VRel.ptr (o:=0) h2
  rw[h3,h4]at this
  exact this
 |func g=>simp only[ev,Option.some.injEq]at h;subst h;exact .func rfl (fun i v v' h=>by simp at h) rfl (fun i v v' h=>by simp at h)
theorem evs_rel (hg:GlobOk E μ) (hf:FRel μ f a.tmps):∀{xs:List Operand} {vs:List Value},evs E f xs=some vs→VRels μ vs (xs.map a.eval)
 |[],vs,h=>by simp only[evs,Option.some.injEq]at h;subst h;exact .nil
 |x::xs,vs,h=>by
  simp only[evs,Option.bind_eq_some_iff,Option.some.injEq]at h
  obtain⟨v,h1,l,h2,rfl⟩:=h
  exact .cons (ev_rel hg hf h1) (evs_rel hg hf h2)
theorem evParts_rel (hg:GlobOk E μ) (hf:FRel μ f a.tmps):∀{xs:List (Nat×Operand)} {vs:List (Nat×Value)},evParts E f xs=some vs→PRel μ vs (xs.map fun p=>(p.1,a.eval p.2))
 |[],vs,h=>by simp only[evParts,Option.some.injEq]at h;subst h;exact⟨rfl,fun k q h=>by simp at h⟩
 |(i,x)::xs,vs,h=>by
  simp only[evParts,Option.bind_eq_some_iff,Option.some.injEq]at h
  obtain⟨v,h1,l,h2,rfl⟩:=h
  obtain⟨e1,e2⟩:=evParts_rel hg hf h2
  refine⟨by simpa using e1,fun k q hk=>?_⟩
  cases k with
  |zero=>simp at hk;subst hk;exact⟨_,rfl,ev_rel hg hf h1⟩
  |succ k=>simp at hk;obtain⟨v',q1,q2⟩:=e2 k q hk;exact⟨v',by simpa using q1,q2⟩
theorem evOpt_rel (hg:GlobOk E μ) (hf:FRel μ f a.tmps) {x:Option Operand} {v:Option Value} (h:evOpt E f x=some v):ORelV μ v (x.map a.eval):=by
 cases x with
 |none=>simp only[evOpt,Option.some.injEq]at h;subst h;trivial
 |some x=>
  simp only[evOpt,Option.bind_eq_some_iff,Option.some.injEq]at h
  obtain⟨u,h1,rfl⟩:=h
  exact ev_rel hg hf h1
theorem asPtr_some {v:Value} {p:Nat×Nat} (h:asPtr v=some p):v= .pointer (some ⟨p.1,p.2,none⟩):=by
 unfold asPtr at h;split at h<;>simp at h;subst h;rfl
theorem asI_some {v:Value} {n:Int} (h:asI v=some n):∃k,v= .int k n:=by
 unfold asI at h;split at h<;>simp at h;subst h;exact⟨_,rfl⟩
theorem asB_some {v:Value} {n:Bool} (h:asB v=some n):v= .bool n:=by
 unfold asB at h;split at h<;>simp at h;subst h;rfl
theorem asA_some {v:Value} {n:List Value} (h:asA v=some n):∃cs:Array Value,v= .agg cs∧n=cs.toList:=by
 unfold asA at h;split at h<;>simp at h;subst h;exact⟨_,rfl,rfl⟩
theorem unary_scalar {op:UnOp} {a v:Value} (h:pureV (Op.unary op a)=some v) (ha:scalar a=true):scalar v=true:=by
 cases op<;>cases a<;>simp[scalar]at ha<;>simp only[Op.unary,Op.intArith,Op.intBits,pureV,stuck,Pure.pure,Option.some.injEq]at h<;>first|(subst h;rfl)|cases h
theorem g_checkKey (hE:EnvOk P E) {kt:TypeId} {kd:TypeDesc} (h:E.desc kt=some kd) (hs:scalarT kd=true) (e:Bool) (n:Nat) (k:Value):Gives P (Instr.checkKey e (n+1) kt k) ():=by
 intro w
 cases kd<;>simp[scalarT]at hs<;>simp[Instr.checkKey,g_under hE h w]
set_option maxHeartbeats 1000000 in
theorem apure_sim (hE:EnvOk P E) (hg:GlobOk E μ) (hf:FRel μ f a.tmps) {o:Oper} {v:Value} (h:apure E f o=some v):∃v',VRel μ v v'∧Gives P (execOp a.eval o) (.value v'):=by
 obtain⟨dst,op,type,pos,after,guard⟩:=o
 cases op
 case move x=>simp only[apure]at h;exact⟨_,ev_rel hg hf h,fun w=>rfl⟩
 case assign x=>simp only[apure]at h;exact⟨_,ev_rel hg hf h,fun w=>rfl⟩
 case pick c x y=>
  simp only[apure,Option.bind_eq_some_iff]at h
  obtain⟨cv,h1,b,h2,h3⟩:=h
  have e:=asB_some h2;subst e
  have hc:=(ev_rel hg hf h1).inv_scalar rfl
  cases b with
  |true=>exact⟨_,ev_rel hg hf h3,fun w=>by simp[execOp,hc,asBool]⟩
  |false=>exact⟨_,ev_rel hg hf h3,fun w=>by simp[execOp,hc,asBool]⟩
 case build t parts=>
  simp only[apure,Option.bind_eq_some_iff]at h
  obtain⟨ps,h1,h2⟩:=h
  obtain⟨v',q1,q2⟩:=g_build hE h2 (evParts_rel hg hf h1)
  refine⟨v',q1,fun w=>?_⟩
  have e:(parts.map fun(i,x)=>(i,a.eval x))=(parts.toList.map fun p=>(p.1,a.eval p.2)).toArray:=by
   apply Array.ext';simp
  simp only[execOp,Sem.run_bind]
  rw[e,q2 w];rfl
 case nilCheck x=>
  simp only[apure,Option.bind_eq_some_iff]at h
  obtain⟨u,h1,h2⟩:=h
  have hr:=ev_rel hg hf h1
  generalize hq:a.eval x=q at hr
  unfold nilCheckV at h2
  split at h2
  ·simp only[Option.some.injEq]at h2;subst h2
   cases hr with
   |lit hh=>simp[plain1]at hh
   |ptr hb=>exact⟨_,.ptr hb,fun w=>by simp[execOp,hq]⟩
  ·simp only[Option.some.injEq]at h2;subst h2
   cases hr with
   |lit hh=>simp[plain1]at hh
   |func h1 h2 h3 h4=>exact⟨_,.func h1 h2 h3 h4,fun w=>by simp[execOp,hq]⟩
  ·simp only[Option.some.injEq]at h2;subst h2
   cases hr with
   |lit hh=>simp[plain1]at hh
   |yield hb=>exact⟨_,.yield hb,fun w=>by simp[execOp,hq]⟩
  ·cases h2
 case binOp op t x y yt=>
  simp only[apure,Option.bind_eq_some_iff]at h
  obtain⟨u,h1,u2,h2,h3⟩:=h
  obtain⟨v',q1,q2⟩:=g_bin hE h3 (ev_rel hg hf h1) (ev_rel hg hf h2)
  refine⟨v',q1,fun w=>?_⟩
  simp only[execOp]
  rw[Sem.run_bind,q2 w];rfl
 case unOp op t x=>
  simp only[apure,Option.bind_eq_some_iff,grd_some]at h
  obtain⟨u,h1,hs,h2⟩:=h
  have e:=(ev_rel hg hf h1).inv_scalar hs
  refine⟨v,.of_scalar μ (unary_scalar h2 hs),fun w=>?_⟩
  simp only[execOp,Sem.run_bind,e,gives_pureV (P:=P) h2 w,Result.andThen_ok,Sem.run_pure]
 case convert s d x=>
  simp only[apure,Option.bind_eq_some_iff]at h
  obtain⟨u,h1,h2⟩:=h
  obtain⟨v',q1,q2⟩:=g_conv hE h2 (ev_rel hg hf h1)
  refine⟨v',q1,fun w=>?_⟩
  simp only[execOp,Sem.run_bind,q2 w,Result.andThen_ok,Sem.run_pure]
 case makeInterface t x=>
  simp only[apure,Option.bind_eq_some_iff]at h
  obtain⟨d,hd,u,h1,h2⟩:=h
  refine⟨.iface t (a.eval x),?_,fun w=>?_⟩
  ·split at h2
   ·cases h2
   ·simp only[Option.some.injEq]at h2;subst h2;exact .iface (ev_rel hg hf h1)
  ·simp only[execOp,Sem.run_bind,Instr.makeInterface,g_under hE hd w,Result.andThen_ok]
   split at h2
   ·cases h2
   ·cases d<;>first|rfl |(exfalso;simp at*)
 case makeFunc fn first captured=>
  simp only[apure]at h
  split at h
  ·simp only[Option.bind_eq_some_iff,Option.some.injEq]at h
   obtain⟨x,h1,y,h2,rfl⟩:=h
   have r1:=evs_rel hg hf h1
   have r2:=evs_rel hg hf h2
   refine⟨.func (.func _) (first.map a.eval) (captured.map a.eval),.func ?_ ?_ ?_ ?_,fun w=>?_⟩
   ·have:=r1.length;simpa using this
   ·intro i u u' hu hu'
    obtain⟨u2,k1,k2⟩:=r1.get (i:=i) (v:=u) (by simpa using hu)
    have:u'=u2:=by
     simp only[Array.getElem?_map]at hu'
     simp only[List.getElem?_map,Array.getElem?_toList]at k1
     rw[hu']at k1;exact Option.some.inj k1
    subst this;exact k2
   ·have:=r2.length;simpa using this
   ·intro i u u' hu hu'
    obtain⟨u2,k1,k2⟩:=r2.get (i:=i) (v:=u) (by simpa using hu)
    have:u'=u2:=by
     simp only[Array.getElem?_map]at hu'
     simp only[List.getElem?_map,Array.getElem?_toList]at k1
     rw[hu']at k1;exact Option.some.inj k1
    subst this;exact k2
   ·simp[execOp,Instr.makeFunc]
  ·cases h
 case slice t x lo hi mx=>
  simp only[apure,Option.bind_eq_some_iff]at h
  obtain⟨u,h1,l,h2,hh,h3,m,h4,h5⟩:=h
  obtain⟨v',q1,q2⟩:=g_sliceAt hE h5 (ev_rel hg hf h1) (evOpt_rel hg hf h2) (evOpt_rel hg hf h3) (evOpt_rel hg hf h4)
  refine⟨v',q1,fun w=>?_⟩
  simp only[execOp,Sem.run_bind,q2 w,Result.andThen_ok,Sem.run_pure]
 case fieldAddr s x fd=>
  simp only[apure,Option.bind_eq_some_iff]at h
  obtain⟨d,hd,u,h1,p,h2,h3⟩:=h
  have e:=asPtr_some h2;subst e
  obtain⟨m,hb,ex⟩:=(ev_rel hg hf h1).inv_ptr
  split at h3
  ·simp only[Option.bind_eq_some_iff,grd_some,blt_iff,Option.some.injEq]at h3
   obtain⟨fl,h4,n,h5,h6,rfl⟩:=h3
   refine⟨.pointer (some ⟨m.r,m.s+(p.2+fl.offset),none⟩),.ptr hb,fun w=>?_⟩
   have hn:n≠0:=by omega
   simp[execOp,Instr.fieldAt,g_under hE hd w,h4,ex,Instr.sureAddr,fieldPlace,g_size hE h5 w,hn,addr_add,Nat.add_assoc]
  ·cases h3
 case field t x fd=>
  simp only[apure,Option.bind_eq_some_iff]at h
  obtain⟨d,hd,u,h1,cs,h2,h3⟩:=h
  obtain⟨ca,e,rfl⟩:=asA_some h2;subst e
  obtain⟨cs',ex,hr⟩:=(ev_rel hg hf h1).inv_agg
  split at h3
  ·simp only[Option.bind_eq_some_iff]at h3
   obtain⟨fl,h4,h5⟩:=h3
   obtain⟨v',q1,q2⟩:=g_part hE (μ:=μ) h5 hr
   have e:cs'.toList.toArray=cs':=by simp
   rw[e]at q2
   refine⟨v',q1,fun w=>?_⟩
   simp only[execOp,Instr.field,Sem.run_bind,g_under hE hd w,Result.andThen_ok,h4,ex,asAgg,Sem.run_pure,q2 w]
  ·cases h3
 case indexAddr t x ix=>
  simp only[apure,Option.bind_eq_some_iff]at h
  obtain⟨u,h1,u2,h2,h3⟩:=h
  obtain⟨v',q1,q2⟩:=g_indexAddr hE h3 (ev_rel hg hf h1) (ev_rel hg hf h2)
  refine⟨v',q1,fun w=>?_⟩
  simp only[execOp,Sem.run_bind,q2 w,Result.andThen_ok,Sem.run_pure]
 case index t x ix=>
  simp only[apure,Option.bind_eq_some_iff]at h
  obtain⟨u,h1,u2,h2,h3⟩:=h
  obtain⟨v',q1,q2⟩:=g_index hE h3 (ev_rel hg hf h1) (ev_rel hg hf h2)
  refine⟨v',q1,fun w=>?_⟩
  simp only[execOp,Sem.run_bind,q2 w,Result.andThen_ok,Sem.run_pure]
 case extract t ix=>
  simp only[apure,Option.bind_eq_some_iff]at h
  obtain⟨u,h1,h2⟩:=h
  split at h2
  ·obtain⟨vs',ex,hr⟩:=(ev_rel hg hf h1).inv_tuple
   obtain⟨v',k1,k2⟩:=hr.get h2
   refine⟨v',k2,fun w=>?_⟩
   have k1':vs'[ix]? =some v':=by simpa using k1
   simp[execOp,Instr.extract,ex,k1']
  ·cases h2
 case lookup t x ix ok=>
  simp only[apure,Option.bind_eq_some_iff]at h
  obtain⟨d,hd,m,h1,k,h2,h3⟩:=h
  split at h3
  ·rename_i kt elem
   simp only[Option.bind_eq_some_iff,grd_some,Bool.and_eq_true,Option.some.injEq]at h3
   obtain⟨kd,hkd,z,hz,⟨⟨s1,s2⟩,s3⟩,rfl⟩:=h3
   have e1:a.eval x= .map none:=by
    have:=ev_rel hg hf h1
    generalize a.eval x=q at this
    cases this;rfl
   have e2:=(ev_rel hg hf h2).inv_scalar s2
   have hchk:∀w,(Instr.checkKey true 10000 kt k).run P w= .ok () w:=fun w=>g_checkKey hE hkd s1 true 9999 k w
   have hfk:∀w,(Instr.findKey kt k []).run P w= .ok none w:=by
    intro w
    simp[Instr.findKey,g_under hE hkd w,Instr.findNow]
   refine⟨(if ok then .tuple #[z,.bool false]else z),?_,fun w=>?_⟩
   ·have hzr:=VRel.refl_plain μ s3
    cases ok with
    |true=>simp only[cond_true,if_true];exact .tuple_of (by simpa using VRels.cons hzr (.cons (.bool μ false) .nil))
    |false=>simpa using hzr
   ·simp[execOp,Instr.lookup,g_under hE hd w,e1,e2,hchk w,hfk w,g_zero hE hz w]
  ·cases h3
 case call c=>
  simp only[apure]at h
  split at h
  ·rename_i b hb
   simp only[Option.bind_eq_some_iff]at h
   obtain⟨args,h1,h2⟩:=h
   have hr:=evs_rel hg hf h1
   obtain⟨v',q1,q2⟩:=g_builtP hE (ts:=c.argTypes) (args':=c.args.map a.eval) type (c.args.map fun | .const _=>true|_=>false) h2 (by simpa using hr)
   refine⟨v',q1,fun w=>?_⟩
   simp only[execOp,resolve,hb,Sem.run_bind,Sem.run_pure,Result.andThen_ok,invoke]
   exact q2 w
  ·cases h
 all_goals(simp only[apure]at h;cases h)
end
end Go.M
namespace Go.M
open Go
theorem repeatL_length (z:List Value):∀n,(repeatL z n).length=n*z.length
 |0=>by simp[repeatL]
 |n+1=>by simp[repeatL,repeatL_length z n,Nat.add_mul];omega
theorem repeatL_get (z:List Value):∀(n i:Nat),i<n*z.length→(repeatL z n)[i]? =z[i % z.length]?
 |0,i,h=>by simp at h
 |n+1,i,h=>by
  simp only[repeatL]
  by_cases hi:i<z.length
  ·rw[List.getElem?_append_left hi,Nat.mod_eq_of_lt hi]
  ·rw[List.getElem?_append_right (by omega),repeatL_get z n (i - z.length) (by rw[Nat.add_mul]at h;omega)]
   congr 1
   rw[←Nat.mod_eq_sub_mod (by omega)]
theorem VRels.repeatL {μ:Emb} {z:List Value} (h:VRels μ z z):∀n,VRels μ (repeatL z n) (repeatL z n)
 |0=>.nil
 |n+1=>h.append (h.repeatL n)
theorem zeros_eq (z:Array Value) (n:Nat) (hz:0<z.size):((Array.range (n*z.size)).map (z[· % z.size]!)).toList=repeatL z.toList n:=by
 apply List.ext_getElem?
 intro i
 by_cases hi:i<n*z.size
 ·rw[repeatL_get z.toList n i (by simpa using hi)]
  have hm:i % z.size<z.size:=Nat.mod_lt _ hz
  simp[hi,hm]
 ·have h1:(repeatL z.toList n)[i]? =none:=by
   rw[List.getElem?_eq_none_iff,repeatL_length];simpa using hi
  rw[h1]
  simp
  omega
section
variable {P:Program} {E:Env} {μ:Emb} {f:AF} {a:Act}
structure AllocSim (P:Program) (μ:Emb) (s:Sem Next) (md:Made) (hd:Hold) (o':Obj) (n:Nat) (hv:Nat→Value):Prop where
 run:∀w:World,s.run P w= .ok (.value (hv w.heap.size)) {w with heap:=w.heap.push o'}
 val:∀(μ':Emb) b r,μ' b=some ⟨r,0,n⟩→VRel μ' (hd.val b) (hv r)
 obj:∀(μ':Emb) h base b r,μ.le μ'→ORel μ' h base b ⟨r,0,n⟩ (md.obj b) o'
theorem cells_obj {cs cs':List Value} (hr:VRels μ cs cs') (e:TypeId) (μ':Emb) (h:AHeap) (base b r:Nat) (hle:μ.le μ') (f tip thr:Nat) (rest:Array Value) (c:Array Value) (hc:c.toList=cs'++rest.toList):
 ORel μ' h base b ⟨r,0,c.size⟩ (.cells cs f tip thr) (.cells c e (0,0)):=by
 have hl:=hr.length
 have hs:c.size=cs'.length+rest.size:=by
  have:=congrArg List.length hc;simpa using this
 refine .cells rfl (by simp only;omega) (fun _=>noFr0 _) fun _ i v hv=>?_
 obtain⟨v',h1,h2⟩:=hr.get hv
 refine⟨v',?_,h2.mono hle⟩
 have hi:=(List.getElem?_eq_some_iff.1 h1).1
 rw[←Array.getElem?_toList,hc,Nat.zero_add,List.getElem?_append_left hi];exact h1
theorem aalloc_sim (hE:EnvOk P E) (hg:GlobOk E μ) (hf:FRel μ f a.tmps) {o:Oper} {md:Made} {hd:Hold} (h:aalloc E f o=some (md,hd)):
 ∃o' n hv,AllocSim P μ (execOp a.eval o) md hd o' n hv:=by
 obtain⟨dst,op,type,pos,after,guard⟩:=o
 cases op
 case alloc t=>
  simp only[aalloc,Option.bind_eq_some_iff,Option.some.injEq,Prod.mk.injEq]at h
  obtain⟨z,hz,rfl,rfl⟩:=h
  have hzr:=(VRel.refl_plain μ (hE.zero t z hz).2).cells
  refine⟨.cells z.cells t (0,0),z.cells.size,fun r=>.pointer (some ⟨r,0,none⟩),fun w=>?_,fun μ' b r hb=>?_,fun μ' h base b r hle=>?_⟩
  ·simp[execOp,Instr.alloc,g_zero hE hz w,newVar,newRow]
  ·have:=VRel.ptr (o:=0) hb;simpa[Hold.val]using this
  ·exact cells_obj hzr t μ' h base b r hle _ _ _ #[] z.cells (by simp)
 case box t x=>
  simp only[aalloc,Option.bind_eq_some_iff,Option.some.injEq,Prod.mk.injEq]at h
  obtain⟨v,hv,rfl,rfl⟩:=h
  have hr:=(ev_rel hg hf hv).cells
  refine⟨.cells (a.eval x).cells t (0,0),(a.eval x).cells.size,fun r=>.pointer (some ⟨r,0,none⟩),fun w=>?_,fun μ' b r hb=>?_,fun μ' h base b r hle=>?_⟩
  ·simp[execOp,Instr.box,newVar,newRow]
  ·have:=VRel.ptr (o:=0) hb;simpa[Hold.val]using this
  ·exact cells_obj hr t μ' h base b r hle _ _ _ #[] _ (by simp)
 case buildSlice t len parts=>
  simp only[aalloc,Option.bind_eq_some_iff]at h
  obtain⟨d,hd1,ps,h1,h2⟩:=h
  split at h2
  ·rename_i elem
   simp only[Option.bind_eq_some_iff,grd_some,Bool.and_eq_true,ble_iff,beq_iff,Option.some.injEq,Prod.mk.injEq]at h2
   obtain⟨n,hn,z,hz,⟨hk,hzs⟩,cs,h3,rfl,rfl⟩:=h2
   have hp:=evParts_rel hg hf h1
   have hzr:=(VRel.refl_plain μ (hE.zero elem z hz).2).cells
   let cells0:Array Value:=(repeatL z.cells.toList len).toArray
   obtain⟨cs',q1,q2⟩:=fill_sim (μ:=μ) (place':=fun i=>some (i*n,n)) (fun _ _ h=>h) (cells':=cells0) (ps':=parts.toList.map fun p=>(p.1,a.eval p.2)) h3 (by simpa[cells0]using hzr.repeatL len) hp.1 hp.2
   have hsz:cs.length=len*n:=by
    have:∀{ps:List (Nat×Value)} {c r:List Value},fillA (fun i=>some (i*n,n)) c ps=some r→r.length=c.length:=by
     intro ps
     induction ps with
     |nil=>intro c r h;simp only[fillA,Option.some.injEq]at h;subst h;rfl
     |cons p ps ih=>
      intro c r h
      simp only[fillA,Option.bind_eq_some_iff,grd_some]at h
      obtain⟨q,_,_,c1,h4,h5⟩:=h
      rw[ih h5,(setN_some h4).2.1]
    rw[this h3,repeatL_length];simp[hzs]
   refine⟨.cells cs' elem (0,0),cs'.size,fun r=>.slice (some ⟨r,0,none⟩) len len,fun w=>?_,fun μ' b r hb=>?_,fun μ' h base b r hle=>?_⟩
   ·have e:(parts.map fun(i,x)=>(i,a.eval x))=(parts.toList.map fun p=>(p.1,a.eval p.2)).toArray:=by
     apply Array.ext';simp
    have key0:len*n=0→∀g:Nat→Value,(Array.range (len*n)).map g=cells0:=by
     intro h0 g
     apply Array.ext'
     have:(repeatL z.cells.toList len)=[]:=by
      apply List.eq_nil_of_length_eq_zero;rw[repeatL_length];simpa[hzs]using h0
     simp[h0,cells0,this]
    have key1:len*n≠0→(Array.range (len*n)).map (z.cells[· % z.cells.size]!)=cells0:=by
     intro h0
     apply Array.ext'
     have hpos:0<z.cells.size:=by
      rw[hzs];exact Nat.pos_of_ne_zero fun e=>h0 (by rw[e];simp)
     have:=zeros_eq z.cells len hpos
     rw[hzs]at this
     simp only[cells0]
     rw[←this,hzs]
    unfold execOp
    simp only[Sem.run_bind,Instr.buildSlice,g_under hE hd1 w,Result.andThen_ok,g_size hE hn w]
    rw[if_neg (by omega)]
    by_cases h0:len*n=0
    ·rw[if_pos h0]
     simp only[Sem.run_bind,Sem.run_pure,Result.andThen_ok]
     rw[key0 h0,e,q1]
     rfl
    ·rw[if_neg h0]
     simp only[Sem.run_bind,Sem.run_pure,Result.andThen_ok,g_zero hE hz w]
     rw[key1 h0,e,q1]
     rfl
   ·have:=VRel.slice (o:=0) (z:=n) hb (Nat.le_refl len) (Nat.le_refl len) (fun h=>h) (by simp only;have:=q2.length;simp at this;omega)
    simpa[Hold.val]using this
   ·exact cells_obj q2 elem μ' h base b r hle _ _ _ #[] cs' (by simp)
  ·cases h2
 case makeMap t r=>
  cases r with
  |none=>
   simp only[aalloc,Option.some.injEq,Prod.mk.injEq]at h
   obtain⟨rfl,rfl⟩:=h
   refine⟨.map #[] 0,0,fun r=>.map (some r),fun w=>?_,fun μ' b r hb=>?_,fun μ' h base b r hle=>?_⟩
   ·simp[execOp,Instr.makeMap]
   ·exact .map hb
   ·exact .map (by simpa using ERels.nil)
  |some r=>simp only[aalloc]at h;cases h
 case makeSlice t l c=>
  simp only[aalloc,Option.bind_eq_some_iff]at h
  obtain⟨d,hd1,lv,h1,cv,h2,l1,h3,c1,h4,h5⟩:=h
  obtain⟨k1,e1⟩:=asI_some h3;subst e1
  obtain⟨k2,e2⟩:=asI_some h4;subst e2
  have el:=(ev_rel hg hf h1).inv_scalar rfl
  have ec:=(ev_rel hg hf h2).inv_scalar rfl
  split at h5
  ·rename_i elem
   simp only[Option.bind_eq_some_iff,grd_some,Bool.and_eq_true,beq_iff,decide_eq_true_eq,Option.some.injEq,Prod.mk.injEq]at h5
   obtain⟨n,hn,bytes,hb,z,hz,⟨⟨⟨hzs,hl0⟩,hlc⟩,hbd⟩,rfl,rfl⟩:=h5
   obtain⟨ti,hti,gti⟩:=g_bytes hE hb
   have hzr:=(VRel.refl_plain μ (hE.zero elem z hz).2).cells
   obtain⟨ln,rfl⟩:=Int.eq_ofNat_of_zero_le hl0
   obtain⟨cn,rfl⟩:=Int.eq_ofNat_of_zero_le (show 0≤c1 by omega)
   have hlc':ln≤cn:=by omega
   have hbd':(cn+1)*(bytes+1)≤1099511627776:=by
    have:(((cn+1)*(bytes+1):Nat):Int)≤1099511627776:=by push_cast;exact hbd
    omega
   have hcn:cn+1≤1099511627776:=Nat.le_trans (Nat.le_mul_of_pos_right _ (by omega)) hbd'
   have hbc:bytes*cn≤1099511627776:=by
    have:bytes*cn≤(cn+1)*(bytes+1):=by rw[Nat.mul_comm];exact Nat.mul_le_mul (by omega) (by omega)
    omega
   let cells0:Array Value:=(repeatL z.cells.toList cn).toArray
   refine⟨.cells cells0 elem (0,0),cells0.size,fun r=>.slice (some ⟨r,0,none⟩) ln cn,fun w=>?_,fun μ' b r hb=>?_,fun μ' h base b r hle=>?_⟩
   ·have wl:IntKind.i64.wrap (ln:Int)=ln:=IntWalk.i64_in _ (by omega)
    have wc:IntKind.i64.wrap (cn:Int)=cn:=IntWalk.i64_in _ (by omega)
    have nt:(decide ((cn:Int)<0)||decide ((ti.bytes:Int)*(cn:Int)>2 ^ 48))=false:=by
     rw[hti]
     have:((bytes*cn:Nat):Int)≤1099511627776:=by omega
     simp only[Bool.or_eq_false_iff,decide_eq_false_iff_not]
     refine⟨by omega,?_⟩
     have e:(2:Int) ^ 48=281474976710656:=by decide
     rw[e]
     push_cast at this
     omega
    have key0:cn*n=0→∀g:Nat→Value,(Array.range (cn*n)).map g=cells0:=by
     intro h0 g
     apply Array.ext'
     have:(repeatL z.cells.toList cn)=[]:=by
      apply List.eq_nil_of_length_eq_zero;rw[repeatL_length];simpa[hzs]using h0
     simp[h0,cells0,this]
    have key1:cn*n≠0→(Array.range (cn*n)).map (z.cells[· % z.cells.size]!)=cells0:=by
     intro h0
     apply Array.ext'
     have hpos:0<z.cells.size:=by
      rw[hzs];exact Nat.pos_of_ne_zero fun e=>h0 (by rw[e];simp)
     have:=zeros_eq z.cells cn hpos
     rw[hzs]at this
     simp only[cells0]
     rw[←this,hzs]
    unfold execOp
    simp only[Sem.run_bind,Instr.makeSlice,g_under hE hd1 w,Result.andThen_ok,el,ec,asInt,asIntOf,Sem.run_pure,gti w,wl,wc,nt]
    rw[if_neg (by simp;omega)]
    simp only[Sem.run_bind,run_askRoom,Result.andThen_ok,g_size hE hn w,Int.toNat_natCast]
    by_cases h0:cn*n=0
    ·rw[if_pos h0]
     simp only[Sem.run_bind,Sem.run_pure,Result.andThen_ok]
     rw[key0 h0]
     rfl
    ·rw[if_neg h0]
     simp only[Sem.run_bind,Sem.run_pure,Result.andThen_ok,g_zero hE hz w]
     rw[key1 h0]
     rfl
   ·have hcs:cells0.size=cn*n:=by simp[cells0,repeatL_length,hzs]
    by_cases e:ln=cn
    ·subst e
     have:=VRel.slice (o:=0) (z:=n) hb (Nat.le_refl ln) (Nat.le_refl ln) (fun h=>h) (by simp only;omega)
     simpa[Hold.val]using this
    ·have:=VRel.slice (o:=0) (z:=n) (len:=ln) (cap:=ln+1) (cap':=cn) hb (by omega) hlc' (fun h=>by omega) (by simp only;omega)
     simpa[Hold.val,e,bif_eq]using this
   ·have hsplit:repeatL z.cells.toList cn=repeatL z.cells.toList ln++repeatL z.cells.toList (cn - ln):=by
     have:∀a b,repeatL z.cells.toList (a+b)=repeatL z.cells.toList a++repeatL z.cells.toList b:=by
      intro a b
      induction a with
      |zero=>simp[M.repeatL]
      |succ a ih=>rw[Nat.succ_add];simp[M.repeatL,ih]
     rw[←this];congr 1;omega
    exact cells_obj (hzr.repeatL ln) elem μ' h base b r hle _ _ _ (repeatL z.cells.toList (cn - ln)).toArray cells0 (by simp[cells0,hsplit])
  ·cases h5
 case range t x=>
  simp only[aalloc,Option.bind_eq_some_iff]at h
  obtain⟨d,hd1,v,h1,h2⟩:=h
  split at h2
  ·rename_i s
   simp only[Option.some.injEq,Prod.mk.injEq]at h2
   obtain⟨rfl,rfl⟩:=h2
   have ex:=(ev_rel hg hf h1).inv_scalar rfl
   refine⟨.stringIter s 0,0,fun r=>.pointer (some ⟨r,0,none⟩),fun w=>?_,fun μ' b r hb=>?_,fun μ' h base b r hle=>.siter rfl⟩
   ·simp[execOp,Instr.range,g_under hE hd1 w,ex]
   ·have:=VRel.ptr (o:=0) hb;simpa[Hold.val]using this
  ·simp only[Option.some.injEq,Prod.mk.injEq]at h2
   obtain⟨rfl,rfl⟩:=h2
   have ex:a.eval x= .map none:=by
    have:=ev_rel hg hf h1
    generalize a.eval x=q at this
    cases this;rfl
   refine⟨.mapIter none 0 #[] 0,0,fun r=>.pointer (some ⟨r,0,none⟩),fun w=>?_,fun μ' b r hb=>?_,fun μ' h base b r hle=>.miter0 rfl⟩
   ·simp[execOp,Instr.range,g_under hE hd1 w,ex]
   ·have:=VRel.ptr (o:=0) hb;simpa[Hold.val]using this
  ·cases h2
 all_goals(simp only[aalloc]at h;cases h)
end
end Go.M
namespace Go.M
open Go
theorem run_getObj_map {P:Program} {w:World} {r:Nat} {o:Obj} (h:w.heap[r]? =some o) (ho:∀c e f,o≠ .cells c e f):(getObj r).run P w= .ok o w:=by
 unfold getObj
 simp only[Sem.run,h]
theorem findNow_rel {μ:Emb} {kd:TypeDesc} {k:Value}:∀{es es':List MapEntry} {i:Nat} {r:Option (Nat×Value)},ERels μ es es'→Instr.findNow kd k es i=some r→
 ∃r',Instr.findNow kd k es' i=some r'∧(r=none→r'=none)∧(∀j v,r=some (j,v)→∃v',r'=some (j,v')∧VRel μ v v')
 |[],es',i,r,h,hr=>by
  cases h with
  |nil=>simp only[Instr.findNow,Option.some.injEq]at hr;subst hr;exact⟨none,rfl,fun _=>rfl,fun j v h=>by cases h⟩
 |e::es,es',i,r,h,hr=>by
  cases h with
  |cons hk hv hb t=>
   rename_i e' es'
   have hs:∀b,Instr.sameNow kd k e.key=some b→e'.key=e.key:=by
    intro b hs
    have:scalar e.key=true:=by
     unfold Instr.sameNow at hs
     split at hs
     ·rename_i h2;rw[h2];rfl
     ·rename_i h2;rw[h2];rfl
     ·rename_i h2;rw[h2];rfl
     ·cases hs
    exact hk.inv_scalar this
   simp only[Instr.findNow]at hr ⊢
   split at hr
   ·rename_i hq
    rw[hs _ hq,hq]
    simp only[Option.some.injEq]at hr;subst hr
    exact⟨_,rfl,(fun h=>by cases h),fun j v h=>(by cases h;exact⟨_,rfl,hv⟩)⟩
   ·rename_i hq
    rw[hs _ hq,hq]
    exact findNow_rel t hr
   ·cases hr
theorem run_loadCells {P:Program} {w:World} {a:Addr}:∀(n i:Nat) (acc:Array Value) (l:List Value),l.length=n→(∀(k:Nat) v,l[k]? =some v→w.cell? (a.add (i+k))=some v)→(loadCellsFrom a i n acc).run P w= .ok (acc++l.toArray) w
 |0,i,acc,l,h,_=>by
  have:l=[]:=List.eq_nil_of_length_eq_zero h
  subst this;simp[loadCellsFrom]
 |n+1,i,acc,[],h,_=>by simp at h
 |n+1,i,acc,v::l,h,hc=>by
  have h0:=hc 0 v rfl
  have ih:=run_loadCells (P:=P) n (i+1) (acc.push v) l (by simpa using h) (fun k u hu=>by have:=hc (k+1) u (by simpa using hu);rw[←this];congr 2;omega)
  simp only[Nat.add_zero]at h0
  simp only[loadCellsFrom,Sem.run_bind,run_load,h0,Result.andThen_ok,ih]
  simp
section
variable {P:Program} {E:Env} {μ:Emb} {f:AF} {a:Act} {base B:Nat} {h:AHeap} {w:World}
theorem HRel.readL (H:HRel E base B μ h w) {b o n:Nat} {m:MT} (hb:μ b=some m) {l:List Value} (hr:M.readCells h b o n=some l):
 ∃l',VRels μ l l'∧∀(i:Nat) v,l'[i]? =some v→w.cell? ⟨m.r,m.s+o+i,none⟩=some v:=by
 obtain⟨h1,h2⟩:=H.readCells hb hr
 have key:∀(l:List Value) (k:Nat),(∀(i:Nat) v,l[i]? =some v→∃v',w.cell? ⟨m.r,m.s+o+k+i,none⟩=some v'∧VRel μ v v')→∃l',VRels μ l l'∧∀(i:Nat) v,l'[i]? =some v→w.cell? ⟨m.r,m.s+o+k+i,none⟩=some v:=by
  intro l
  induction l with
  |nil=>intro k _;exact⟨[],.nil,fun i v h=>by simp at h⟩
  |cons v l ih=>
   intro k hl
   obtain⟨v',q1,q2⟩:=hl 0 v rfl
   obtain⟨l',r1,r2⟩:=ih (k+1) fun i u hu=>by
    obtain⟨u',k1,k2⟩:=hl (i+1) u (by simpa using hu)
    exact⟨u',by rw[←k1];congr 2;omega,k2⟩
   refine⟨v'::l',.cons q2 r1,fun i u hu=>?_⟩
   cases i with
   |zero=>simp at hu;subst hu;simpa using q1
   |succ i=>
    simp at hu
    rw[←r2 i u hu];congr 2;omega
 obtain⟨l',r1,r2⟩:=key l 0 (by simpa using h2)
 exact⟨l',r1,by simpa using r2⟩
theorem run_loadVar (hE:EnvOk P E) {t:TypeId} {agg:Bool} {n:Nat} (hs:shapeT E t=some (agg,n)) {r o:Nat} {l':List Value} (hl:l'.length=n) (hc:∀(i:Nat) v,l'[i]? =some v→w.cell? ⟨r,o+i,none⟩=some v) {v':Value}
 (hv:fromCells agg l'=some v'):(loadVar t ⟨r,o,none⟩).run P w= .ok v' w:=by
 obtain⟨d,k1,k2,k3,k4⟩:=shapeT_some hs
 unfold loadVar
 simp only[Sem.run_bind,g_isAgg hE k1 w,Result.andThen_ok,k2]
 cases agg with
 |true=>
  simp only[fromCells,Option.some.injEq]at hv
  subst hv
  simp only[if_true,Sem.run_bind,g_size hE (k3 rfl) w,Result.andThen_ok,loadCells]
  rw[run_loadCells n 0 #[] l' hl (fun k v hv=>by rw[addr_add];simpa using hc k v hv)]
  simp
 |false=>
  have:=k4 rfl;subst this
  match l',hl with
  |[u],_=>
   simp only[fromCells,Option.some.injEq]at hv
   subst hv
   have:=hc 0 u rfl
   simp only[Nat.add_zero]at this
   simp[this]
theorem aread_sim (hE:EnvOk P E) (hf:FRel μ f a.tmps) (H:HRel E base B μ h w) {o:Oper} {q:RQ} {v:Value} (hq:aread E f o=some q) (hv:q.run h=some v):
 ∃v',VRel μ v v'∧(execOp a.eval o).run P w= .ok (.value v') w:=by
 have hg:GlobOk E μ:=H.glob
 obtain⟨dst,op,type,pos,after,guard⟩:=o
 cases op
 case load t x=>
  simp only[aread,Option.bind_eq_some_iff,Option.some.injEq]at hq
  obtain⟨u,h1,p,h2,⟨agg,n⟩,h3,rfl⟩:=hq
  have e:=asPtr_some h2;subst e
  obtain⟨m,hb,ex⟩:=(ev_rel hg hf h1).inv_ptr
  simp only[RQ.run,Option.bind_eq_some_iff]at hv
  obtain⟨l,h4,h5⟩:=hv
  obtain⟨l',r1,r2⟩:=H.readL hb h4
  obtain⟨v',q1,q2⟩:=fromCells_rel h5 r1
  refine⟨v',q2,?_⟩
  have hl:l'.length=n:=by rw[←r1.length];exact(H.readCells hb h4).1
  simp only[execOp,Instr.loadAt,Sem.run_bind,ex,Instr.sureAddr,Sem.run_pure,Result.andThen_ok]
  rw[run_loadVar hE h3 hl r2 q1]
  rfl
 case lookup t x ix ok=>
  simp only[aread,Option.bind_eq_some_iff]at hq
  obtain⟨d,hd,mv,h1,k,h2,h3⟩:=hq
  split at h3
  ·rename_i kt elem r
   simp only[Option.bind_eq_some_iff,grd_some,Bool.and_eq_true,Option.some.injEq]at h3
   obtain⟨kd,hkd,z,hz,⟨⟨s1,s2⟩,s3⟩,rfl⟩:=h3
   obtain⟨m,hb,ex⟩:=(ev_rel hg hf h1).inv_map
   have ek:=(ev_rel hg hf h2).inv_scalar s2
   simp only[RQ.run,Option.bind_eq_some_iff]at hv
   obtain⟨⟨es,clock⟩,h4,h5⟩:=hv
   obtain⟨o1,o2,k1,k2,k3⟩:=H.obj r m hb
   have hm:h.get r=some (.map es clock):=by
    unfold mapAt at h4;split at h4<;>simp at h4
    obtain⟨rfl,rfl⟩:=h4;assumption
   rw[hm]at k1;cases k1
   cases k3 with
   |map hs=>
    rename_i es'
    have hgo:=run_getObj_map (P:=P) k2 (fun _ _ _=>by simp)
    simp only[lookIn,Option.bind_eq_some_iff,Option.some.injEq]at h5
    obtain⟨fr,h6,h7⟩:=h5
    obtain⟨fr',q1,q2,q3⟩:=findNow_rel hs h6
    have hzr:=VRel.refl_plain μ s3
    have hfk:(Instr.findKey kt k es'.toList).run P w= .ok fr' w:=by
     simp only[Instr.findKey,Sem.run_bind,g_under hE hkd w,Result.andThen_ok,q1,Sem.run_pure]
    have hck:=g_checkKey (P:=P) hE hkd s1 es'.isEmpty 9999 k w
    have fin:∀(u u':Value) (b:Bool),VRel μ u u'→VRel μ (bif ok then .tuple #[u,.bool b]else u) (if ok=true then .tuple #[u',.bool b]else u'):=by
     intro u u' b hu
     cases ok with
     |true=>simp only[cond_true,if_true];exact .tuple_of (by simpa using VRels.cons hu (.cons (.bool μ b) .nil))
     |false=>simpa using hu
    cases fr with
    |none=>
     have e:=q2 rfl;subst e
     simp only at h7;subst h7
     refine⟨_,fin z z false hzr,?_⟩
     simp only[execOp,Instr.lookup,Sem.run_bind,g_under hE hd w,Result.andThen_ok,ex,ek,hgo,Sem.run_pure,hck,hfk,g_zero hE hz w]
    |some jv=>
     obtain⟨v',e,hr⟩:=q3 jv.1 jv.2 rfl
     subst e
     simp only at h7;subst h7
     refine⟨_,fin jv.2 v' true hr,?_⟩
     simp only[execOp,Instr.lookup,Sem.run_bind,g_under hE hd w,Result.andThen_ok,ex,ek,hgo,Sem.run_pure,hck,hfk]
  ·cases h3
 case call c=>
  simp only[aread]at hq
  split at hq
  ·rename_i t ts hcal htys
   simp only[Option.bind_eq_some_iff]at hq
   obtain⟨d,hd,args,h1,h2⟩:=hq
   split at h2
   ·rename_i kt et r rest
    simp only[Option.some.injEq]at h2;subst h2
    have hr:=evs_rel hg hf h1
    cases hr':c.args.toList.map a.eval with
    |nil=>rw[hr']at hr;cases hr
    |cons u us=>
     rw[hr']at hr
     cases hr with
     |cons hx _=>
      obtain⟨m,hb,rfl⟩:=hx.inv_map
      simp only[RQ.run,Option.bind_eq_some_iff,Option.some.injEq]at hv
      obtain⟨⟨es,clock⟩,h4,rfl⟩:=hv
      obtain⟨o1,o2,k1,k2,k3⟩:=H.obj r m hb
      have hm:h.get r=some (.map es clock):=by
       unfold mapAt at h4;split at h4<;>simp at h4
       obtain⟨rfl,rfl⟩:=h4;assumption
      rw[hm]at k1;cases k1
      cases k3 with
      |map hs=>
       rename_i es'
       have hgo:=run_getObj_map (P:=P) k2 (fun _ _ _=>by simp)
       have e0:(c.args.map a.eval)[0]? =some (.map (some m.r)):=by
        have:(c.args.map a.eval).toList= .map (some m.r)::us:=by simpa using hr'
        rw[←Array.getElem?_toList,this];rfl
       have e1:c.argTypes[0]? =some t:=by rw[←Array.getElem?_toList,htys];rfl
       refine⟨goInt es'.size,?_,?_⟩
       ·have:=hs.length
        simp only[Array.length_toList]at this
        rw[this];exact .int μ _ _
       ·simp only[execOp,resolve,hcal,Sem.run_bind,Sem.run_pure,Result.andThen_ok,invoke,builtin,Builtin.len_,e0,e1,g_under hE hd w,hgo]
   ·cases h2
  ·cases hq
 all_goals(simp only[aread]at hq;cases hq)
end
end Go.M
namespace Go.M
open Go
theorem oneC_oneCell {v:Value} (h:oneC v=true):v.oneCell'=true:=by cases v<;>simp[oneC]at h<;>rfl
theorem run_storeCells {P:Program} {r off:Nat} {e:TypeId} {fr:Nat×Nat}:∀(vs:List Value) (i:Nat) (w:World) (c:Array Value),NoFr fr c.size→w.heap[r]? =some (.cells c e fr)→vs.all oneC=true→off+i+vs.length≤c.size→
 ∃w' c',(storeCells ⟨r,off,none⟩ vs i).run P w= .ok () w'∧Upd w r (.cells c' e fr) w'∧c'.size=c.size∧∀k,c'[k]? =if off+i≤k∧k<off+i+vs.length then vs[k - (off+i)]? else c[k]?
 |[],i,w,c,_,hw,_,_=>by
  refine⟨w,c,by simp[storeCells],⟨rfl,rfl,rfl,rfl,fun k=>?_⟩,rfl,fun k=>?_⟩
  ·by_cases e:k=r
   ·subst e;rw[if_pos rfl,hw]
   ·rw[if_neg e]
  ·rw[if_neg (by simp)]
 |v::vs,i,w,c,hnf,hw,hone,hb=>by
  simp only[List.all_cons,Bool.and_eq_true]at hone
  simp only[List.length_cons]at hb
  have hcell:w.cell? ⟨r,off+i,none⟩=some (c[off+i]'(by omega)):=by
   simp only[World.cell?,hw]
   simp
  have hfr:w.frozen? ⟨r,off+i,none⟩=false:=by
   have:=hnf.at (off+i) (by omega)
   simp only[World.frozen?,hw]
   simpa using this
  let w1:=w.setCell ⟨r,off+i,none⟩ v
  have hget:∀k,w1.heap[k]? =if k=r then some (.cells (c.setIfInBounds (off+i) v) e fr)else w.heap[k]? :=by
   intro k
   simp only[w1,World.setCell,Array.getElem?_modify]
   by_cases ek:k=r
   ·subst ek;rw[if_pos rfl,if_pos rfl,hw];simp
   ·rw[if_neg (fun h=>ek h.symm),if_neg ek]
  obtain⟨w',c',q1,q2,q3,q4⟩:=run_storeCells (P:=P) (off:=off) vs (i+1) w1 (c.setIfInBounds (off+i) v) (by simpa using hnf) (by rw[hget,if_pos rfl]) hone.2 (by simp;omega)
  refine⟨w',c',?_,⟨q2.tape,q2.os,q2.output,by rw[q2.size];simp[w1,World.setCell],fun k=>?_⟩,by rw[q3];simp,fun k=>?_⟩
  ·simp only[storeCells,Sem.run_bind,addr_add,run_store P w _ v .plain (oneC_oneCell hone.1),hcell,hfr]
   simp only[Bool.false_eq_true,if_false,Result.andThen_ok]
   exact q1
  ·rw[q2.get]
   by_cases ek:k=r
   ·rw[if_pos ek,if_pos ek]
   ·rw[if_neg ek,if_neg ek,hget,if_neg ek]
  ·rw[q4 k]
   by_cases h1:off+(i+1)≤k∧k<off+(i+1)+vs.length
   ·rw[if_pos h1,if_pos (by simp;omega)]
    have:k - (off+i)=(k - (off+(i+1)))+1:=by omega
    rw[this,List.getElem?_cons_succ]
   ·rw[if_neg h1]
    by_cases h2:k=off+i
    ·subst h2
     rw[if_pos (by simp),Array.getElem?_setIfInBounds_self_of_lt (show off+i<c.size by omega)]
     simp
    ·rw[if_neg (by simp;omega),Array.getElem?_setIfInBounds_ne (by omega)]
theorem growBy_le (n:Nat):∀(rounds c:Nat),256≤c→Builtin.growBy n rounds c≤c*2 ^ rounds
 |0,c,_=>by simp[Builtin.growBy]
 |k+1,c,h=>by
  simp only[Builtin.growBy]
  split
  ·exact Nat.le_mul_of_pos_right _ (Nat.pow_pos (by omega))
  ·have h1:c+(c+768) / 4≤c*2:=by omega
   have:=growBy_le n k (c+(c+768) / 4) (by omega)
   calc _≤(c+(c+768) / 4)*2 ^ k:=this
    _≤(c*2)*2 ^ k:=Nat.mul_le_mul_right _ h1
    _=c*2 ^ (k+1):=by rw[Nat.pow_succ,Nat.mul_assoc,Nat.mul_comm 2]
theorem nextslicecap_le {n c:Nat} (h:c<n):Builtin.nextslicecap n c≤16*n:=by
 unfold Builtin.nextslicecap
 split
 ·omega
 ·split
  ·omega
  ·have:=growBy_le n 4 c (by omega)
   omega
section
variable {P:Program} {E:Env} {μ:Emb} {f:AF} {a:Act} {base B:Nat} {h:AHeap} {w:World}
theorem lenV_rel {x x':Value} {n:Nat} (h:lenV x=some n) (hr:VRel μ x x'):Gives P (Builtin.lenOf x') n:=by
 unfold lenV at h
 split at h
 ·simp only[Option.some.injEq]at h;subst h
  intro w
  cases hr<;>rfl
 ·simp only[Option.some.injEq]at h;subst h
  cases hr;intro w;rfl
 ·cases h
theorem firstV_rel (H:HRel E base B μ h w) {size n L:Nat} {x x':Value} {l:List Value} (h1:firstV h size n x=some l) (hr:VRel μ x x') (hL:lenV x=some L) (hn:n≤L):
 ∃l',VRels μ l l'∧∀d,(Builtin.firstCells size n x').run P {w with drawn:=d}= .ok l'.toArray {w with drawn:=d}:=by
 unfold firstV at h1
 split at h1
 ·rename_i b o z len cap
  cases hr with
  |lit hh=>simp[plain1]at hh
  |slice hb k1 k2 k3 k4=>
   rename_i cap' m
   obtain⟨l',r1,r2⟩:=H.readL hb h1
   refine⟨l',r1,fun d=>?_⟩
   simp only[Builtin.firstCells,loadCells]
   have hl:l'.length=n*size:=by rw[←r1.length];exact(H.readCells hb h1).1
   rw[run_loadCells (n*size) 0 #[] l' hl (fun k v hv=>by rw[addr_add];have:=r2 k v hv;simpa[World.cell?]using this)]
   simp
  |slice0=>
   simp only[lenV,Option.some.injEq]at hL
   have hn0:n=0:=by omega
   subst hn0
   unfold M.readCells at h1
   simp only[Option.bind_eq_some_iff,takeN_some]at h1
   obtain⟨cs,_,_,rfl⟩:=h1
   refine⟨[],by simpa using VRels.nil,fun d=>?_⟩
   simp[Builtin.firstCells,loadCells,loadCellsFrom]
 ·rename_i len cap
  simp only[Option.some.injEq]at h1;subst h1
  cases hr with
  |lit hh=>exact⟨[],.nil,fun d=>by simp[Builtin.firstCells]⟩
 ·rename_i s
  simp only[Option.some.injEq]at h1;subst h1
  cases hr.inv_scalar rfl
  refine⟨_,VRels.refl_plain μ (by
   rw[List.all_eq_true]
   intro v hv
   obtain⟨u,_,rfl⟩:=List.mem_map.1 hv
   rfl),fun d=>?_⟩
  simp only[Builtin.firstCells,Sem.run_pure]
  congr 1
  apply Array.ext'
  simp[List.extract_eq_take_drop]
 ·cases h1
theorem store_sim (H:HRel E base B μ h w) {b o:Nat} {m:MT} (hb:μ b=some m) {cs cs' vs vs':List Value} {h':AHeap} (hrd:h.rd b=some cs) (hset:setN cs o vs=some cs') (hwr:h.wr base b cs'=some h')
 (hr:VRels μ vs vs') (hone:vs.all oneC=true):∃w',(storeCells ⟨m.r,m.s+o,none⟩ vs').run P w= .ok () w'∧Step E base B μ h w μ h' w':=by
 obtain⟨c,e,fr,k1,k2,k3,k4,k5⟩:=H.read hb hrd
 obtain⟨f,thr,hbase,_,_,_⟩:=wr_some hwr
 have hnf:NoFr fr c.size:=by rw[k2];exact k4 hbase
 obtain⟨s1,s2,s3⟩:=setN_some hset
 have hl:=hr.length
 have hone':vs'.all oneC=true:=by
  rw[List.all_eq_true]at hone ⊢
  intro v' hv'
  obtain⟨i,hi,rfl⟩:=List.mem_iff_getElem.1 hv'
  have h0:vs[i]? =some (vs[i]'(by omega)):=by simp
  obtain⟨u,q1,q2⟩:=hr.get h0
  have:vs'[i]? =some vs'[i]:=by simp[hi]
  rw[this]at q1;cases q1
  exact q2.oneC (hone _ (List.getElem_mem _))
 obtain⟨w',c',q1,q2,q3,q4⟩:=run_storeCells (P:=P) vs' 0 w c hnf k1 hone' (off:=m.s+o) (by omega)
 obtain⟨r,_,_,hcs⟩:=rd_some hrd
 refine⟨w',q1,Step.wr H hb hcs s2 hwr k1 q3 q2 fun i v hv=>?_⟩
 rw[s3 i]at hv
 rw[q4 (m.s+i)]
 by_cases hi:o≤i∧i<o+vs.length
 ·rw[if_pos hi]at hv
  rw[if_pos (by omega)]
  obtain⟨v',z1,z2⟩:=hr.get hv
  exact⟨v',by rw[←z1];congr 1;omega,z2⟩
 ·rw[if_neg hi]at hv
  rw[if_neg (by omega)]
  exact k5 i v hv
end
end Go.M
namespace Go.M
open Go
section
variable {P:Program} {E:Env} {μ:Emb} {f:AF} {a:Act} {base B:Nat} {h:AHeap} {w:World}
def stAt (b:Option Addr) (k:Nat) (new:List Value):Sem Unit:=match b with|some a=>storeCells (a.add k) new|none=>pure ()
theorem zeroCells_size (z:Array Value) (n:Nat):(Builtin.zeroCells z n).size=n*z.size:=by simp[Builtin.zeroCells]
theorem run_append (hE:EnvOk P E) {st xt ty elem:TypeId} {xd:TypeDesc} {size bytes n len cap:Nat} {z0:Value} {base':Option Addr} {x':Value} {old new:List Value}
 (hst:E.desc st=some (.slice elem)) (hxt:E.desc xt=some xd) (hni:isIntT xd=false) (hs:E.size elem=some size) (hby:E.bytes elem=some bytes) (hz:E.zero elem=some z0) (hzs:z0.cells.size=size)
 (hlx:Gives P (Builtin.lenOf x') n)
 (hnew:∀d,(Builtin.firstCells size n x').run P {w with drawn:=d}= .ok new.toArray {w with drawn:=d}):
 (len+n≤cap→∀w',(stAt base' (len*size) new).run P w= .ok () w'→(Builtin.append_ #[st,xt] ty #[.slice base' len cap,x']).run P w= .ok (.slice base' (len+n) cap) w')∧
 (cap<len+n→(len+n+1)*(bytes+1)≤1099511627776→(∀d,(Builtin.firstCells size len (.slice base' len cap)).run P {w with drawn:=d}= .ok old.toArray {w with drawn:=d})→∃newCap rest,len+n≤newCap∧rest.size=(newCap - (len+n))*size∧
  (Builtin.append_ #[st,xt] ty #[.slice base' len cap,x']).run P w= .ok (.slice (some ⟨w.heap.size,0,none⟩) (len+n) newCap) {w with heap:=w.heap.push (.cells (old.toArray++new.toArray++rest) elem (0,0)),drawn:=w.drawn+1}):=by
 obtain⟨ti,hti,gti⟩:=g_bytes hE hby
 have hw:({w with drawn:=w.drawn}:World)=w:=rfl
 constructor
 ·intro hfit w' hst'
  unfold Builtin.append_
  simp only[List.getElem?_toArray,List.getElem?_cons_zero,List.getElem?_cons_succ,Sem.run_bind,g_under hE hst w,g_under hE hxt w,Result.andThen_ok,g_size hE hs w,Sem.run_pure]
  split
  ·simp[isIntT]at hni
  simp only[Bool.false_eq_true,if_false,Sem.run_bind,hlx w,Result.andThen_ok]
  rw[if_pos hfit]
  have:=hnew w.drawn
  simp only[Bool.not_false,if_true,Sem.run_bind]
  rw[show(Builtin.firstCells size n x').run P w= .ok new.toArray w from this]
  cases base' with
  |none=>
   simp only[stAt,Sem.run_pure]at hst'
   cases hst'
   simp
  |some a=>
   simp only[stAt]at hst'
   simp[hst']
 ·intro hgrow hbd hold
  have hn1:len+n+1≤1099511627776:=Nat.le_trans (Nat.le_mul_of_pos_right _ (by omega)) hbd
  have hmax:¬(((len+n:Nat):Int)>IntKind.i64.max):=by
   have e:IntKind.i64.max=9223372036854775807:=by decide
   rw[e];omega
  have hcap:¬(Builtin.nextslicecap (len+n) cap*ti.bytes>2 ^ 48):=by
   have h1:=nextslicecap_le hgrow
   have h2:Builtin.nextslicecap (len+n) cap*ti.bytes≤16*(len+n)*bytes:=by rw[hti];exact Nat.mul_le_mul_right _ h1
   have h3:16*(len+n)*bytes≤16*((len+n+1)*(bytes+1)):=by
    rw[Nat.mul_assoc];exact Nat.mul_le_mul_left _ (Nat.mul_le_mul (by omega) (by omega))
   have e:(2:Nat) ^ 48=281474976710656:=by decide
   rw[e];omega
  let nc:=(Question.appendCap (len+n) cap elem).cut (w.tape w.drawn (Question.appendCap (len+n) cap elem))
  refine⟨nc,Builtin.zeroCells z0.cells (nc - (len+n)),?_,by rw[zeroCells_size,hzs],?_⟩
  ·simp only[nc,Question.cut];omega
  ·unfold Builtin.append_
   simp only[List.getElem?_toArray,List.getElem?_cons_zero,List.getElem?_cons_succ,Sem.run_bind,g_under hE hst w,g_under hE hxt w,Result.andThen_ok,g_size hE hs w,Sem.run_pure]
   split
   ·simp[isIntT]at hni
   simp only[Bool.false_eq_true,if_false,Sem.run_bind,hlx w,Result.andThen_ok]
   rw[if_neg (by omega)]
   simp only[Sem.run_bind,gti w,Result.andThen_ok]
   rw[if_neg (fun hh=>hmax hh.1)]
   simp only[Sem.run_bind,gti w,Result.andThen_ok]
   rw[if_neg hcap]
   have ho:=hold (w.drawn+1)
   have hn:=hnew (w.drawn+1)
   simp only[Sem.run_bind,run_choose,Question.forced,Bool.false_eq_true,if_false,Result.andThen_ok,gti _,run_askRoom,ho,hn,Bool.not_false,if_true,g_zero hE hz _]
   rfl
end
end Go.M
namespace Go.M
open Go
section
variable {P:Program} {E:Env} {μ:Emb} {f:AF} {a:Act} {base B:Nat} {h:AHeap} {w:World}
def EffSim (P:Program) (E:Env) (base B:Nat) (μ:Emb) (h:AHeap) (w:World) (s:Sem Value) (v:Value) (h':AHeap):Prop:=
 ∃μ' v' w',s.run P w= .ok v' w'∧VRel μ' v v'∧Step E base B μ h w μ' h' w'
theorem fresh_sim (H:HRel E base B μ h w) {cs:List Value} {cs':List Value} (hr:VRels μ cs cs') {rest:Array Value} {elem:TypeId} {size len newCap:Nat} (hl:len≤newCap) (hlen:cs.length=len*size) (hrest:rest.size=(newCap - len)*size) (d:Nat):
 ∃μ',VRel μ' (fresh h cs size len).1 (.slice (some ⟨w.heap.size,0,none⟩) len newCap)∧
  Step E base B μ h w μ' (fresh h cs size len).2 {w with heap:=w.heap.push (.cells (cs'.toArray++rest) elem (0,0)),drawn:=d}:=by
 have hs:(cs'.toArray++rest).size=newCap*size:=by
  have:=hr.length
  simp only[Array.size_append,List.size_toArray,hrest,←this,hlen]
  rw[←Nat.add_mul];congr 1;omega
 have hd:=Step.drawn H d
 have hal:=Alc.mk' {w with drawn:=d} (.cells (cs'.toArray++rest) elem (0,0))
 have st:=Step.alloc hd.rel hal (newCap*size) (o:=.cells cs h.size h.size 0) (fun cs f tip thr hh=>by cases hh;exact⟨rfl,rfl⟩) (by
  have:=cells_obj (base:=base) (b:=h.size) (r:=w.heap.size) hr elem (upd μ h.size ⟨w.heap.size,0,newCap*size⟩) (h.push (.cells cs h.size h.size 0)) (upd_le H.fresh) h.size h.size 0 rest (cs'.toArray++rest) (by simp)
  rw[hs]at this
  exact this)
 refine⟨_,?_,hd.trans st⟩
 have:=VRel.slice (o:=0) (z:=size) (len:=len) (cap:=len+1) (cap':=newCap) (upd_self μ h.size ⟨w.heap.size,0,newCap*size⟩) (by omega) hl (fun h=>by omega) (by simp only;omega)
 simpa[fresh]using this
theorem readCells_nil {b o:Nat} {l:List Value} (hr:M.readCells h b o 0=some l):l=[]:=by
 unfold M.readCells at hr
 simp only[Option.bind_eq_some_iff,takeN_some]at hr
 obtain⟨cs,_,_,rfl⟩:=hr
 simp
set_option maxHeartbeats 1000000 in
set_option maxHeartbeats 1000000 in
theorem append_sim (hE:EnvOk P E) (H:HRel E base B μ h w) {st xt ty:TypeId} {s x s' x' v:Value} {h':AHeap} (ha:aappend E base h st xt s x=some (v,h')) (hs:VRel μ s s') (hx:VRel μ x x'):
 EffSim P E base B μ h w (Builtin.append_ #[st,xt] ty #[s',x']) v h':=by
 unfold aappend at ha
 simp only[Option.bind_eq_some_iff]at ha
 obtain⟨sd,hst,xd,hxt,ha⟩:=ha
 split at ha
 ·rename_i elem
  simp only[Option.bind_eq_some_iff,grd_some,Bool.and_eq_true,Bool.not_eq_true',beq_iff]at ha
  obtain⟨size,hsz,bytes,hby,z0,hz,n,hn,⟨hni,hzs⟩,ha⟩:=ha
  have hlx:=lenV_rel (P:=P) hn hx
  have hxz:∀d,(Builtin.firstCells size 0 x').run P {w with drawn:=d}= .ok ([]:List Value).toArray {w with drawn:=d}:=by
   intro d
   unfold lenV at hn
   split at hn
   ·cases hx with
    |lit hh=>
     unfold plain1 at hh
     split at hh<;>simp_all[Builtin.firstCells]
    |slice=>simp[Builtin.firstCells,loadCells,loadCellsFrom]
    |slice0=>simp[Builtin.firstCells,loadCells,loadCellsFrom]
   ·cases hx with
    |lit hh=>simp[Builtin.firstCells]
   ·cases hn
  split at ha
  ·-- a nil slice
   have es:s'= .slice none 0 0:=by cases hs;rfl
   subst es
   have rap:=fun new hnew=>run_append (w:=w) (ty:=ty) (base':=none) (cap:=0) (len:=0) (old:=[]) (new:=new) hE hst hxt hni hsz hby hz hzs hlx hnew
   rw[bif_eq]at ha
   split at ha
   ·rename_i h0
    rw[beq_iff]at h0;subst h0
    simp only[Option.some.injEq,Prod.mk.injEq]at ha
    obtain⟨rfl,rfl⟩:=ha
    exact⟨μ,_,w,(rap [] hxz).1 (Nat.le_refl _) w rfl,.lit rfl,.refl H⟩
   ·rename_i h0
    rw[beq_iff]at h0
    simp only[grd_some,ble_iff,beq_iff,Option.bind_eq_some_iff,Option.some.injEq]at ha
    obtain⟨hbd,new,hnew,hl,ha⟩:=ha
    obtain⟨new',r1,r2⟩:=firstV_rel (P:=P) H hnew hx hn (Nat.le_refl _)
    obtain⟨newCap,rest,k1,k2,k3⟩:=(rap new' r2).2 (by omega) (by simpa using hbd) (fun d=>by simp[Builtin.firstCells])
    obtain⟨μ',q1,q2⟩:=fresh_sim (elem:=elem) H r1 (rest:=rest) (by simpa using k1) hl (by simpa using k2) (w.drawn+1)
    simp only[Nat.zero_add]at k3 ha
    rw[ha]at q1 q2
    refine⟨μ',_,_,k3,q1,?_⟩
    simpa using q2
  ·rename_i b o z len cap
   rw[bif_eq]at ha
   split at ha
   ·-- nothing is appended
    rename_i h0
    rw[beq_iff]at h0;subst h0
    simp only[Option.some.injEq,Prod.mk.injEq]at ha
    obtain⟨rfl,rfl⟩:=ha
    have fin:∀(a':Addr) (cap':Nat),s'= .slice (some a') len cap'→len≤cap'→EffSim P E base B μ h w (Builtin.append_ #[st,xt] ty #[s',x']) (.slice (some ⟨b,o,some z⟩) len cap) h:=by
     intro a' cap' e hlc
     subst e
     have ra:=(run_append (w:=w) (ty:=ty) (base':=some a') (cap:=cap') (len:=len) (old:=[]) hE hst hxt hni hsz hby hz hzs hlx hxz).1 (by omega) w (by simp[stAt,storeCells])
     exact⟨μ,_,w,ra,hs,.refl H⟩
    generalize hv:Value.slice (some ⟨b,o,some z⟩) len cap=v at hs
    cases hs with
    |slice hb k1 k2 k3 k4=>cases hv;exact fin _ _ rfl k2
    |slice0=>cases hv;exact fin _ _ rfl (Nat.le_refl _)
    |_=>cases hv<;>simp[plain1]at*
   ·rename_i h0
    rw[beq_iff]at h0
    simp only[grd_some,Bool.and_eq_true,ble_iff,beq_iff,Option.bind_eq_some_iff]at ha
    obtain⟨⟨hzz,hbd⟩,old,hold,new,hnew,hl,ha⟩:=ha
    subst hzz
    obtain⟨new',r1,r2⟩:=firstV_rel (P:=P) H hnew hx hn (Nat.le_refl _)
    -- the elder cells
    have hold':∃old',VRels μ old old'∧(∀d,(Builtin.firstCells z len s').run P {w with drawn:=d}= .ok old'.toArray {w with drawn:=d}):=
     firstV_rel (P:=P) H (x:=.slice (some ⟨b,o,some z⟩) len cap) (x':=s') hold hs rfl (Nat.le_refl _)
    obtain⟨old',o1,o2⟩:=hold'
    have holdl:old.length=len*z:=by
     unfold M.readCells at hold
     simp only[Option.bind_eq_some_iff,takeN_some]at hold
     obtain⟨cs,_,h3,rfl⟩:=hold
     simp at h3 ⊢;omega
    have hboth:VRels μ (old++new) (old'++new'):=o1.append r1
    have hlen2:(old++new).length=(len+n)*z:=by rw[List.length_append,holdl,hl,Nat.add_mul]
    have grows:∀(a':Addr) (cap':Nat),s'= .slice (some a') len cap'→cap'<len+n→∃newCap rest,len+n≤newCap∧rest.size=(newCap - (len+n))*z∧
     (Builtin.append_ #[st,xt] ty #[s',x']).run P w= .ok (.slice (some ⟨w.heap.size,0,none⟩) (len+n) newCap) {w with heap:=w.heap.push (.cells ((old'++new').toArray++rest) elem (0,0)),drawn:=w.drawn+1}:=by
     intro a' cap' e hc
     subst e
     obtain⟨newCap,rest,q1,q2,q3⟩:=(run_append (w:=w) (ty:=ty) (base':=some a') (cap:=cap') (len:=len) (old:=old') hE hst hxt hni hsz hby hz hzs hlx r2).2 hc hbd o2
     refine⟨newCap,rest,q1,q2,?_⟩
     rw[q3];simp
    rw[bif_eq]at ha
    split at ha
    ·-- no room
     rename_i hcl
     rw[beq_iff]at hcl;subst hcl
     simp only[Option.some.injEq]at ha
     have fin:∀(a':Addr) (cap':Nat),s'= .slice (some a') cap cap'→cap'<cap+n→EffSim P E base B μ h w (Builtin.append_ #[st,xt] ty #[s',x']) v h':=by
      intro a' cap' e hc
      obtain⟨newCap,rest,q1,q2,q3⟩:=grows a' cap' e hc
      obtain⟨μ',p1,p2⟩:=fresh_sim (elem:=elem) H hboth (rest:=rest) q1 hlen2 q2 (w.drawn+1)
      rw[ha]at p1 p2
      exact⟨μ',_,_,q3,p1,p2⟩
     generalize hv:Value.slice (some ⟨b,o,some z⟩) cap cap=sv at hs
     cases hs with
     |slice hb k1 k2 k3 k4=>cases hv;exact fin _ _ rfl (by have:=k3 rfl;omega)
     |slice0=>cases hv;exact fin _ _ rfl (by omega)
     |_=>cases hv<;>simp[plain1]at*
    ·-- the last block of a family goes on
     rename_i hcl
     rw[beq_iff]at hcl
     simp only[Option.bind_eq_some_iff,grd_some,Bool.and_eq_true,ble_iff,beq_iff,Option.some.injEq,Prod.mk.injEq]at ha
     obtain⟨cs,hcs,⟨f,tip,thr⟩,hfam,⟨⟨hbf,htip⟩,hone⟩,rfl,rfl⟩:=ha
     simp only at hbf htip
     subst htip
     obtain⟨thr',hth⟩:∃t,t=(bif Nat.beq (o+len*z) cs.length then thr else h.size):=⟨_,rfl⟩
     simp only
     rw[←hth]
     have hthr:∀x,x<h.size→thr'≤x→thr≤x:=by
      intro x hx h7
      cases hb7:Nat.beq (o+len*z) cs.length<;>rw[hb7]at hth<;>simp only[cond_true,cond_false]at hth<;>omega
     have htail:thr'<h.size→o+len*z=cs.length:=by
      intro h7
      cases hb7:Nat.beq (o+len*z) cs.length<;>rw[hb7]at hth<;>simp only[cond_true,cond_false]at hth
      ·omega
      ·exact beq_iff.1 hb7
     have hmk:∀mt:MT,mt.s+0+(len+n)*z≤mt.n→∀capx,len+n≤capx→mt.s+0+capx*z≤mt.n→
      VRel (upd μ h.size mt) (.slice (some ⟨h.size,0,some z⟩) (len+n) (len+n+1)) (.slice (some ⟨mt.r,mt.s+0,none⟩) (len+n) capx):=by
      intro mt _ capx hc hfit
      exact .slice (upd_self μ h.size mt) (by omega) hc (fun h=>by omega) hfit
     have realloc:∀(a':Addr) (cap':Nat) (m:MT),μ tip=some m→s'= .slice (some a') len cap'→cap'<len+n→EffSim P E base B μ h w (Builtin.append_ #[st,xt] ty #[s',x']) (.slice (some ⟨h.size,0,some z⟩) (len+n) (len+n+1)) ((h.setFam f h.size thr').push (.cells (old++new) f 0 0)):=by
      intro a' cap' m hb e hc
      obtain⟨newCap,rest,q1,q2,q3⟩:=grows a' cap' e hc
      have hsz2:((old'++new').toArray++rest).size=newCap*z:=by
       have:=hboth.length
       simp only[Array.size_append,List.size_toArray,q2,←this,hlen2]
       rw[←Nat.add_mul];congr 1;omega
      let mt:MT:=⟨w.heap.size,0,newCap*z⟩
      have hle:newCap*z≥(len+n)*z:=Nat.mul_le_mul_right _ q1
      have st:=Step.ext (w':={w with heap:=w.heap.push (.cells ((old'++new').toArray++rest) elem (0,0)),drawn:=w.drawn+1}) H thr' hthr hb hfam hbf (cs:=cs) (new:=old++new) mt (by simp) rfl rfl rfl
       ⟨(old'++new').toArray++rest,elem,(0,0),by simp[mt],noFr0 _,hsz2,by simp only[mt];omega,fun i v hv=>by
        obtain⟨v',z1,z2⟩:=hboth.get hv
        refine⟨v',?_,z2⟩
        have hi:=(List.getElem?_eq_some_iff.1 z1).1
        simp only[mt,Nat.zero_add]
        rw[←Array.getElem?_toList,Array.toList_append,List.getElem?_append_left (by simpa using hi)]
        exact z1⟩ hcs
       (fun r hr hne=>by simp only[mt]at hne;simp only[Array.getElem?_push];rw[if_neg (by omega)]) H.low (.inl (Nat.le_refl _))
      refine⟨_,_,_,q3,?_,st⟩
      have:=hmk mt (by simp only[mt];omega) newCap q1 (by simp only[mt];omega)
      simpa[mt]using this
     generalize hv:Value.slice (some ⟨tip,o,some z⟩) len cap=sv at hs
     cases hs with
     |slice hb k1 k2 k3 k4=>
      rename_i b1 o1' z1 len1 cap1 cap' m
      cases hv
      by_cases hfit:len+n≤cap'
      ·-- in place
       obtain⟨c,e,fr,w1,w2,w3,w4,w5⟩:∃c e fr,w.heap[m.r]? =some (.cells c e fr)∧c.size=m.n∧m.s+cs.length≤m.n∧(base≤tip→NoFr fr m.n)∧∀(i:Nat) v,cs[i]? =some v→∃v',c[m.s+i]? =some v'∧VRel μ v v':=by
        unfold M.readCells at hold
        simp only[Option.bind_eq_some_iff]at hold
        obtain⟨cs2,hrd,_⟩:=hold
        obtain⟨_,_,_,h9⟩:=rd_some hrd
        rw[hcs]at h9;cases h9
        exact H.read hb hrd
       have hft:=H.fam tip m _ hb hfam
       simp only at hft
       have hbt:base≤tip:=by omega
       have hnf:NoFr fr c.size:=by rw[w2];exact w4 hbt
       have hone':new'.all oneC=true:=by
        rw[List.all_eq_true]at hone ⊢
        intro v' hv'
        obtain⟨i,hi,rfl⟩:=List.mem_iff_getElem.1 hv'
        have hlx':=r1.length
        have h0:new[i]? =some (new[i]'(by omega)):=by simp
        obtain⟨u,q1,q2⟩:=r1.get h0
        have:new'[i]? =some new'[i]:=by simp[hi]
        rw[this]at q1;cases q1
        exact q2.oneC (hone _ (List.getElem_mem _))
       have hnl:new'.length=n*z:=by rw[←r1.length];exact hl
       have hmul:(len+n)*z=len*z+n*z:=Nat.add_mul _ _ _
       have hfz:(len+n)*z≤cap'*z:=Nat.mul_le_mul_right _ hfit
       obtain⟨w',c',q1,q2,q3,q4⟩:=run_storeCells (P:=P) (off:=m.s+o+len*z) new' 0 w c hnf w1 hone' (by omega)
       have ra:=(run_append (w:=w) (ty:=ty) (base':=some ⟨m.r,m.s+o,none⟩) (cap:=cap') (len:=len) (old:=old') hE hst hxt hni hsz hby hz hzs hlx r2).1 hfit w' (by simp only[stAt,addr_add];exact q1)
       let mt:MT:=⟨m.r,m.s+o,m.n⟩
       have hread:∀(i:Nat) v,old[i]? =some v→∃v',c[m.s+o+i]? =some v'∧VRel μ v v':=by
        intro i v hv
        unfold M.readCells at hold
        simp only[Option.bind_eq_some_iff,takeN_some]at hold
        obtain⟨cs2,hrd,h3,rfl⟩:=hold
        obtain⟨_,_,_,h9⟩:=rd_some hrd
        rw[hcs]at h9;cases h9
        have hi:=(List.getElem?_eq_some_iff.1 hv).1
        simp at hi
        rw[List.getElem?_take,if_pos (by omega),List.getElem?_drop]at hv
        obtain⟨v',z1,z2⟩:=w5 _ v hv
        exact⟨v',by rw[Nat.add_assoc];exact z1,z2⟩
       have st:=Step.ext (w':=w') H thr' hthr hb hfam hbf (cs:=cs) (new:=old++new) mt (by rw[q2.size];exact Nat.le_refl _) q2.tape q2.os q2.output
        ⟨c',e,fr,by rw[q2.get,if_pos rfl],w4 hbt,by rw[q3,w2],by simp only[mt];omega,fun i v hv=>by
         simp only[mt]
         rw[q4]
         by_cases hi:i<old.length
         ·rw[List.getElem?_append_left hi]at hv
          obtain⟨v',z1,z2⟩:=hread i v hv
          refine⟨v',?_,z2⟩
          rw[if_neg (by omega)];exact z1
         ·rw[List.getElem?_append_right (by omega)]at hv
          have hi2:=(List.getElem?_eq_some_iff.1 hv).1
          obtain⟨v',z1,z2⟩:=r1.get hv
          refine⟨v',?_,z2⟩
          rw[if_pos (by omega),←z1];congr 1;omega⟩ hcs
        (fun r hr hne=>by rw[q2.get,if_neg hne]) (H.own tip m hb hbt)
        (.inr ⟨rfl,rfl,fun h7=>by have:=htail h7;simp only[mt];omega,fun c2 e2 fr2 hh=>by
         rw[w1]at hh;cases hh
         exact⟨c',by rw[q2.get,if_pos rfl],q3,fun h7 i hi=>by have:=htail h7;rw[q4,if_neg (by omega)]⟩⟩)
       refine⟨_,_,w',ra,?_,st⟩
       have:=hmk mt (by simp only[mt];omega) cap' hfit (by simp only[mt];omega)
       simpa[mt]using this
      ·exact realloc _ _ m hb rfl (by omega)
     |slice0 hb=>cases hv;obtain⟨m0,hb⟩:=hb (by omega);exact realloc _ _ _ hb rfl (by omega)
     |_=>cases hv<;>simp[plain1]at*
  ·cases ha
 ·cases ha
end
end Go.M
namespace Go.M
open Go
theorem Upd.set (w:World) (r:Nat) (o:Obj) (hr:r<w.heap.size):Upd w r o {w with heap:=w.heap.setIfInBounds r o}:=
 ⟨rfl,rfl,rfl,by simp,fun k=>by
  by_cases e:k=r
  ·subst e;rw[if_pos rfl,Array.getElem?_setIfInBounds_self_of_lt hr]
  ·rw[if_neg e,Array.getElem?_setIfInBounds_ne (fun h=>e h.symm)]⟩
theorem run_setObj' {P:Program} {w:World} {r:Nat} {o1 o:Obj} (h:w.heap[r]? =some o1) (ho:∀c e f,o1≠ .cells c e f):(setObj r o).run P w= .ok () {w with heap:=w.heap.setIfInBounds r o}:=by
 unfold setObj
 simp only[Sem.run,h]
section
variable {P:Program} {E:Env} {μ:Emb} {f:AF} {a:Act} {base B:Nat} {h:AHeap} {w:World}
theorem copy_sim (hE:EnvOk P E) (H:HRel E base B μ h w) {dt ty:TypeId} {d s d' s' v:Value} {h':AHeap} (ha:acopy E base h dt d s=some (v,h')) (hd:VRel μ d d') (hs:VRel μ s s') (ts:Array TypeId) (ht:ts[0]? =some dt):
 EffSim P E base B μ h w (Builtin.copy_ ts ty #[d',s']) v h':=by
 unfold acopy at ha
 simp only[Option.bind_eq_some_iff]at ha
 obtain⟨dd,hdt,ha⟩:=ha
 split at ha
 ·rename_i elem ad dLen dcap
  simp only[Option.bind_eq_some_iff]at ha
  obtain⟨size,hsz,sl,hsl,ha⟩:=ha
  have hlx:=lenV_rel (P:=P) hsl hs
  have hd':∃ad' cap',d'= .slice ad' dLen cap':=by cases hd<;>exact⟨_,_,rfl⟩
  obtain⟨ad',cap',rfl⟩:=hd'
  have run:∀(cells:List Value) (w':World),(Builtin.firstCells size (Nat.min sl dLen) s').run P w= .ok cells.toArray w→(stAt ad' 0 cells).run P w= .ok () w'→(Builtin.copy_ ts ty #[.slice ad' dLen cap',s']).run P w= .ok (goInt (Nat.min sl dLen)) w':=by
   intro cells w' h1 h2
   unfold Builtin.copy_
   simp only[ht,List.getElem?_toArray,List.getElem?_cons_zero,List.getElem?_cons_succ,Sem.run_bind,g_under hE hdt w,Result.andThen_ok,hlx w,g_size hE hsz w,h1]
   cases ad' with
   |none=>simp only[stAt,Sem.run_pure]at h2;cases h2;simp
   |some aa=>
    simp only[stAt]at h2
    have:aa.add 0=aa:=by simp[Addr.add]
    rw[this]at h2
    simp[h2]
  rw[bif_eq]at ha
  split at ha
  ·rename_i h0
   rw[beq_iff]at h0
   simp only[Option.some.injEq,Prod.mk.injEq]at ha
   obtain⟨rfl,rfl⟩:=ha
   have hx0:(Builtin.firstCells size (Nat.min sl dLen) s').run P w= .ok ([]:List Value).toArray w:=by
    rw[h0]
    unfold lenV at hsl
    split at hsl
    ·cases hs with
     |lit hh=>unfold plain1 at hh;split at hh<;>simp_all[Builtin.firstCells]
     |slice=>simp[Builtin.firstCells,loadCells,loadCellsFrom]
     |slice0=>simp[Builtin.firstCells,loadCells,loadCellsFrom]
    ·cases hs with
     |lit hh=>simp[Builtin.firstCells]
    ·cases hsl
   have:=run [] w hx0 (by cases ad'<;>simp[stAt,storeCells])
   rw[h0]at this
   exact⟨μ,_,w,this,.int μ _ _,.refl H⟩
  ·rename_i h0
   rw[beq_iff]at h0
   split at ha
   ·rename_i b o z
    simp only[Option.bind_eq_some_iff,grd_some,Option.some.injEq,Prod.mk.injEq]at ha
    obtain⟨cells,hc,hone,cs,hrd,cs',hset,h1,hwr,rfl,rfl⟩:=ha
    obtain⟨cells',r1,r2⟩:=firstV_rel (P:=P) H hc hs hsl (Nat.min_le_left _ _)
    cases hd with
    |slice hb k1 k2 k3 k4=>
     obtain⟨w',q1,q2⟩:=store_sim (P:=P) H hb hrd hset hwr r1 hone
     exact⟨μ,_,w',run cells' w' (r2 w.drawn) (by simp only[stAt,addr_add];exact q1),.int μ _ _,q2⟩
    |slice0=>exact absurd (Nat.min_zero _) h0
    |lit hh=>simp[plain1]at hh
   ·cases ha
 ·cases ha
theorem clear_sim (hE:EnvOk P E) (H:HRel E base B μ h w) {t ty:TypeId} {x x' v:Value} {h':AHeap} (ha:aclear E base h t x=some (v,h')) (hx:VRel μ x x') (ts:Array TypeId) (ht:ts[0]? =some t) (args:Array Value) (hargs:args[0]? =some x')
 (hu:∃d,E.desc t=some d):EffSim P E base B μ h w (Builtin.clear_ ts ty args) v h':=by
 obtain⟨d,hdt⟩:=hu
 unfold aclear at ha
 split at ha
 ·simp only[Option.some.injEq,Prod.mk.injEq]at ha
  obtain⟨rfl,rfl⟩:=ha
  have ex:x'= .map none:=by cases hx;rfl
  subst ex
  refine⟨μ,.tuple #[],w,?_,VRel.undef μ,.refl H⟩
  unfold Builtin.clear_
  simp only[ht,hargs,Sem.run_bind,g_under hE hdt w,Result.andThen_ok]
  rfl
 ·simp only[Option.some.injEq,Prod.mk.injEq]at ha
  obtain⟨rfl,rfl⟩:=ha
  have ex:∃n c,x'= .slice none n c:=by cases hx;exact⟨_,_,rfl⟩
  obtain⟨n,c,rfl⟩:=ex
  refine⟨μ,.tuple #[],w,?_,VRel.undef μ,.refl H⟩
  unfold Builtin.clear_
  simp only[ht,hargs,Sem.run_bind,g_under hE hdt w,Result.andThen_ok]
  rfl
 ·rename_i b o z n cap
  have shape:∃a' cap',x'= .slice (some a') n cap':=by
   cases hx with
   |lit hh=>simp[plain1]at hh
   |slice=>exact⟨_,_,rfl⟩
   |slice0=>exact⟨_,_,rfl⟩
  rw[bif_eq]at ha
  split at ha
  ·rename_i h0
   rw[beq_iff]at h0;subst h0
   simp only[Option.some.injEq,Prod.mk.injEq]at ha
   obtain⟨rfl,rfl⟩:=ha
   obtain⟨a',cap',rfl⟩:=shape
   refine⟨μ,.tuple #[],w,?_,VRel.undef μ,.refl H⟩
   unfold Builtin.clear_
   simp only[ht,hargs,Sem.run_bind,g_under hE hdt w,Result.andThen_ok]
   rfl
  ·rename_i h0
   rw[beq_iff]at h0
   simp only[Option.bind_eq_some_iff]at ha
   obtain⟨d2,hdt2,ha⟩:=ha
   rw[hdt]at hdt2;cases hdt2
   split at ha
   ·rename_i elem
    simp only[Option.bind_eq_some_iff,grd_some,Option.some.injEq,Prod.mk.injEq]at ha
    obtain⟨zv,hz,hone,cs,hrd,cs',hset,h1,hwr,rfl,rfl⟩:=ha
    have hzr:=(VRel.refl_plain μ (hE.zero elem zv hz).2).cells
    have hone':(repeatL zv.cells.toList n).all oneC=true:=by
     have:∀k,(repeatL zv.cells.toList k).all oneC=true:=by
      intro k
      induction k with
      |zero=>rfl
      |succ k ih=>simp only[M.repeatL,List.all_append,hone,ih,Bool.and_self]
     exact this n
    cases hx with
    |lit hh=>simp[plain1]at hh
    |slice hb k1 k2 k3 k4=>
     rename_i cap' m
     obtain⟨w',q1,q2⟩:=store_sim (P:=P) H hb hrd hset hwr (hzr.repeatL n) hone'
     refine⟨μ,.tuple #[],w',?_,VRel.undef μ,q2⟩
     have hzc:(Builtin.zeroCells zv.cells n).toList=repeatL zv.cells.toList n:=by
      unfold Builtin.zeroCells
      by_cases hpos:0<zv.cells.size
      ·exact zeros_eq zv.cells n hpos
      ·have e0:zv.cells.size=0:=by omega
       have e1:(repeatL zv.cells.toList n)=[]:=by
        apply List.eq_nil_of_length_eq_zero;rw[repeatL_length];simp[e0]
       rw[e1];simp[e0]
     obtain⟨n',rfl⟩:∃n',n=n'+1:=⟨n - 1,by omega⟩
     unfold Builtin.clear_
     simp only[ht,hargs,Sem.run_bind,g_under hE hdt w,Result.andThen_ok,g_zero hE hz w,hzc,q1,Sem.run_pure]
    |slice0=>exact absurd rfl h0
   ·cases ha
 ·rename_i r
  simp only[grd_some,ble_iff]at ha
  obtain⟨hbase,ha⟩:=ha
  split at ha
  ·rename_i es clock hg
   simp only[Option.some.injEq,Prod.mk.injEq]at ha
   obtain⟨rfl,rfl⟩:=ha
   obtain⟨m,hb,rfl⟩:=hx.inv_map
   obtain⟨o1,o2,k1,k2,k3⟩:=H.obj r m hb
   rw[hg]at k1;cases k1
   cases k3 with
   |map hs=>
    have st:=Step.put H hb hbase hg rfl rfl (Upd.set w m.r (.map #[] clock) (H.lt hb)) (.map (by simpa using ERels.nil))
    refine⟨μ,.tuple #[],_,?_,VRel.undef μ,st⟩
    unfold Builtin.clear_
    simp only[ht,hargs,Sem.run_bind,g_under hE hdt w,Result.andThen_ok,run_getObj_map (P:=P) k2 (fun _ _ _=>by simp),run_setObj' (P:=P) k2 (fun _ _ _=>by simp),Sem.run_pure]
  ·cases ha
 ·cases ha
theorem findNow_lt {kd:TypeDesc} {k:Value}:∀{es:List MapEntry} {i j:Nat} {v:Value},Instr.findNow kd k es i=some (some (j,v))→i≤j∧j<i+es.length
 |[],i,j,v,h=>by simp[Instr.findNow]at h
 |e::es,i,j,v,h=>by
  simp only[Instr.findNow]at h
  split at h
  ·simp only[Option.some.injEq,Prod.mk.injEq]at h;obtain⟨rfl,_⟩:=h;simp
  ·have:=findNow_lt h;simp;omega
  ·cases h
theorem ERels.eraseIdx {l l':List MapEntry} (hs:ERels μ l l'):∀i,ERels μ (l.eraseIdx i) (l'.eraseIdx i):=by
 induction hs with
 |nil=>intro i;simpa using ERels.nil
 |cons hk hv hb t ih=>intro i;cases i with
  |zero=>simpa using t
  |succ i=>simpa using ERels.cons hk hv hb (ih i)
theorem ERels.append {l l' k k':List MapEntry} (hs:ERels μ l l') (hk:ERels μ k k'):ERels μ (l++k) (l'++k'):=by
 induction hs with
 |nil=>exact hk
 |cons a b c _ ih=>exact .cons a b c ih
theorem ERels.modify {l l':List MapEntry} (hs:ERels μ l l') {g g':MapEntry→MapEntry} (hg:∀e e',VRel μ e.key e'.key→VRel μ e.val e'.val→e.born=e'.born→VRel μ (g e).key (g' e').key∧VRel μ (g e).val (g' e').val∧(g e).born=(g' e').born):∀i,ERels μ (l.modify i g) (l'.modify i g'):=by
 induction hs with
 |nil=>intro i;simpa using ERels.nil
 |cons hk hv hb t ih=>intro i;cases i with
  |zero=>obtain⟨a,b,c⟩:=hg _ _ hk hv hb;simpa using ERels.cons a b c t
  |succ i=>simpa using ERels.cons hk hv hb (ih i)
theorem delete_sim (hE:EnvOk P E) (H:HRel E base B μ h w) {t ty:TypeId} {mv k mv' k' v:Value} {h':AHeap} (ha:adelete E base h t mv k=some (v,h')) (hm:VRel μ mv mv') (hk:VRel μ k k') (ts:Array TypeId) (ht:ts[0]? =some t):
 EffSim P E base B μ h w (Builtin.delete_ ts ty #[mv',k']) v h':=by
 unfold adelete at ha
 simp only[Option.bind_eq_some_iff]at ha
 obtain⟨d,hd,ha⟩:=ha
 split at ha
 ·rename_i kt et r
  simp only[grd_some,Bool.and_eq_true,ble_iff,Option.bind_eq_some_iff]at ha
  obtain⟨⟨hbase,hks⟩,kd,hkd,hst,ha⟩:=ha
  split at ha
  ·rename_i es clock hg
   obtain⟨m,hb,rfl⟩:=hm.inv_map
   have ek:=hk.inv_scalar hks
   subst ek
   obtain⟨o1,o2,k1,k2,k3⟩:=H.obj r m hb
   rw[hg]at k1;cases k1
   cases k3 with
   |map hs=>
    rename_i es'
    simp only[Option.bind_eq_some_iff]at ha
    obtain⟨fr,hfr,ha⟩:=ha
    obtain⟨fr',q1,q2,q3⟩:=findNow_rel hs hfr
    have hfk:(Instr.findKey kt k' es'.toList).run P w= .ok fr' w:=by
     simp only[Instr.findKey,Sem.run_bind,g_under hE hkd w,Result.andThen_ok,q1,Sem.run_pure]
    have hck:=g_checkKey (P:=P) hE hkd hst es'.isEmpty 9999 k' w
    have hgo:=run_getObj_map (P:=P) k2 (fun _ _ _=>by simp)
    have hso:=fun o=>run_setObj' (P:=P) (o:=o) k2 (fun _ _ _=>by simp)
    cases fr with
    |none=>
     have e:=q2 rfl;subst e
     simp only[Option.some.injEq,Prod.mk.injEq]at ha
     obtain⟨rfl,rfl⟩:=ha
     have st:=Step.put H hb hbase hg rfl rfl (Upd.set w m.r (.map es' clock) (H.lt hb)) (.map hs)
     refine⟨μ,.tuple #[],_,?_,VRel.undef μ,st⟩
     unfold Builtin.delete_
     simp only[ht,List.getElem?_toArray,List.getElem?_cons_zero,List.getElem?_cons_succ,Sem.run_bind,g_under hE hd w,Result.andThen_ok,hgo,hck,hfk,hso,Sem.run_pure]
    |some jv=>
     obtain⟨v',e,hr⟩:=q3 jv.1 jv.2 rfl
     subst e
     simp only[Option.some.injEq,Prod.mk.injEq]at ha
     obtain⟨rfl,rfl⟩:=ha
     have hlt:=(findNow_lt hfr).2
     have hl:=hs.length
     have st:=Step.put H hb hbase hg rfl rfl (Upd.set w m.r (.map (es'.eraseIdxIfInBounds jv.1) clock) (H.lt hb)) (.map (by
      have hlt':jv.1<es'.size:=by simp at hl hlt;omega
      have:(es'.eraseIdxIfInBounds jv.1).toList=es'.toList.eraseIdx jv.1:=by
       simp[Array.eraseIdxIfInBounds,hlt']
      rw[this];exact hs.eraseIdx jv.1))
     refine⟨μ,.tuple #[],_,?_,VRel.undef μ,st⟩
     unfold Builtin.delete_
     simp only[ht,List.getElem?_toArray,List.getElem?_cons_zero,List.getElem?_cons_succ,Sem.run_bind,g_under hE hd w,Result.andThen_ok,hgo,hck,hfk,hso,Sem.run_pure]
  ·cases ha
 ·cases ha
end
end Go.M
namespace Go.M
open Go
section
variable {P:Program} {E:Env} {μ:Emb} {f:AF} {a:Act} {base B:Nat} {h:AHeap} {w:World}
theorem appendZ_sim (hE:EnvOk P E) (H:HRel E base B μ h w) {st xt ty:TypeId} {s x s' x' v:Value} {h':AHeap} (ha:aappendZ E h st xt s x=some (v,h')) (hs:VRel μ s s') (hx:VRel μ x x'):
 EffSim P E base B μ h w (Builtin.append_ #[st,xt] ty #[s',x']) v h':=by
 unfold aappendZ at ha
 simp only[Option.bind_eq_some_iff]at ha
 obtain⟨sd,hst,xd,hxt,ha⟩:=ha
 split at ha
 ·rename_i elem l
  simp only[Option.bind_eq_some_iff,grd_some,Bool.and_eq_true,beq_iff,blt_iff,ble_iff,Option.some.injEq]at ha
  obtain⟨size,hsz,bytes,hby,z0,hz,⟨⟨⟨⟨hni,hzs⟩,hs0⟩,hl0⟩,hbd⟩,ha⟩:=ha
  have es:s'= .slice none 0 0:=by cases hs;rfl
  subst es
  have ex:x'= .int .i64 l:=hx.inv_scalar rfl
  subst ex
  obtain⟨ti,hti,gti⟩:=g_bytes hE hby
  obtain⟨n,hn⟩:∃n:Nat,l=n:=⟨l.toNat,by omega⟩
  subst hn
  simp only[Int.toNat_natCast]at hl0 hbd ha
  have hn1:n+1≤1099511627776:=Nat.le_trans (Nat.le_mul_of_pos_right _ (by omega)) hbd
  have hwl:IntKind.i64.wrap (n:Int)=n:=IntWalk.i64_in _ (by omega)
  have hmul:((n:Int)*(ti.bytes:Int))≤1099511627776:=by
   rw[hti]
   have h1:n*bytes≤(n+1)*(bytes+1):=Nat.mul_le_mul (by omega) (by omega)
   have h2:=Int.ofNat_le.2 (Nat.le_trans h1 hbd)
   rwa [Int.natCast_mul]at h2
  have hmax:¬(((0+n:Nat):Int)>IntKind.i64.max):=by
   have e:IntKind.i64.max=9223372036854775807:=by decide
   rw[e];omega
  have hcap:¬(Builtin.nextslicecap (0+n) 0*ti.bytes>2 ^ 48):=by
   have h1:=nextslicecap_le (n:=0+n) (c:=0) (by omega)
   have h2:Builtin.nextslicecap (0+n) 0*ti.bytes≤16*(0+n)*bytes:=by rw[hti];exact Nat.mul_le_mul_right _ h1
   have h3:16*(0+n)*bytes≤16*((n+1)*(bytes+1)):=by
    rw[Nat.mul_assoc];exact Nat.mul_le_mul_left _ (Nat.mul_le_mul (by omega) (by omega))
   have e:(2:Nat) ^ 48=281474976710656:=by decide
   rw[e];omega
  have hzr:=(VRel.refl_plain μ (hE.zero elem z0 hz).2).cells
  have hzc:Builtin.zeroCells z0.cells n=(repeatL z0.cells.toList n).toArray:=by
   apply Array.ext'
   unfold Builtin.zeroCells
   rw[zeros_eq z0.cells n (by omega)]
  have hns:¬n*size=0:=by
   intro e;rcases Nat.mul_eq_zero.1 e with e|e<;>omega
  let nc:=(Question.appendCap (0+n) 0 elem).cut (w.tape w.drawn (Question.appendCap (0+n) 0 elem))
  have hnc:n≤nc:=by simp only[nc,Question.cut];omega
  have run:(Builtin.append_ #[st,xt] ty #[.slice none 0 0,.int .i64 (n:Int)]).run P w= .ok (.slice (some ⟨w.heap.size,0,none⟩) n nc) {w with heap:=w.heap.push (.cells ((repeatL z0.cells.toList n).toArray++Builtin.zeroCells z0.cells (nc - n)) elem (0,0)),drawn:=w.drawn+1}:=by
   unfold Builtin.append_
   simp only[List.getElem?_toArray,List.getElem?_cons_zero,List.getElem?_cons_succ,Sem.run_bind,g_under hE hst w,g_under hE hxt w,Result.andThen_ok,g_size hE hsz w,Sem.run_pure]
   split
   ·simp only[if_true,Sem.run_bind,asInt,asIntOf,Sem.run_pure,Result.andThen_ok,hwl]
    rw[if_neg (show¬((n:Nat):Int)<0 by omega)]
    simp only[Sem.run_bind,gti w,Result.andThen_ok]
    rw[if_neg (show¬((n:Int)*(ti.bytes:Int)>2 ^ 48) by have e:(2:Int) ^ 48=281474976710656:=by decide
                                                       rw[e];omega)]
    simp only[Sem.run_bind,Sem.run_pure,Result.andThen_ok,Int.toNat_natCast]
    rw[if_neg (show¬(0+n≤0) by omega)]
    simp only[Sem.run_bind,gti w,Result.andThen_ok]
    rw[if_neg (fun hh=>hmax hh.1)]
    simp only[Sem.run_bind,gti w,Result.andThen_ok]
    rw[if_neg hcap]
    simp only[Sem.run_bind,run_choose,Question.forced,Bool.false_eq_true,if_false,Result.andThen_ok,gti _,run_askRoom,Builtin.firstCells,Sem.run_pure,Bool.not_true,hns,g_zero hE hz _,hzc]
    simp only[nc,Nat.zero_add,Array.empty_append]
    rfl
   ·rename_i hne
    cases xd<;>simp[isIntT]at hni
    exact absurd rfl (hne _)
  have hlen:(repeatL z0.cells.toList n).length=n*size:=by rw[repeatL_length];simp[hzs]
  obtain⟨μ',q1,q2⟩:=fresh_sim (elem:=elem) H (hzr.repeatL n) (rest:=Builtin.zeroCells z0.cells (nc - n)) hnc hlen (by rw[zeroCells_size,hzs]) (w.drawn+1)
  rw[ha]at q1 q2
  exact⟨μ',_,_,run,q1,q2⟩
 ·cases ha
theorem builtE_sim (hE:EnvOk P E) (H:HRel E base B μ h w) {b:Builtin} {ts:Array TypeId} {args:List Value} {args':Array Value} {v:Value} {h':AHeap} (ty:TypeId) (ha:abuiltE E base h b ts.toList args=some (v,h')) (hr:VRels μ args args'.toList):
 ∃s,EffSim P E base B μ h w s v h'∧∀cs,builtin b ts ty cs args'=(do pure (.value (←s))):=by
 obtain⟨ts⟩:=ts
 obtain⟨args'⟩:=args'
 simp only at ha hr
 unfold abuiltE at ha
 split at ha
 ·cases hr with
  |cons hs hr=>cases hr with
   |cons hx hr=>cases hr with
    |nil=>
     split at ha
     ·rename_i r hr
      simp only[Option.some.injEq]at ha
      exact⟨_,append_sim (ty:=ty) hE H (hr.trans (congrArg some ha)) hs hx,fun _=>rfl⟩
     ·exact⟨_,appendZ_sim (ty:=ty) hE H ha hs hx,fun _=>rfl⟩
 ·cases hr with
  |cons hs hr=>cases hr with
   |cons hx hr=>cases hr with
    |nil=>exact⟨_,copy_sim (ty:=ty) hE H ha hs hx _ rfl,fun _=>rfl⟩
 ·cases hr with
  |cons hs hr=>
   simp only[Option.bind_eq_some_iff]at ha
   obtain⟨d,hd,ha⟩:=ha
   exact⟨_,clear_sim (ty:=ty) hE H ha hs _ rfl _ rfl ⟨d,hd⟩,fun _=>rfl⟩
 ·cases hr with
  |cons hs hr=>cases hr with
   |cons hx hr=>cases hr with
    |nil=>exact⟨_,delete_sim (ty:=ty) hE H ha hs hx _ rfl,fun _=>rfl⟩
 ·cases ha
theorem asIter_some {v:Value} {r:Nat} (h:asIter v=some r):v= .pointer (some ⟨r,0,none⟩):=by
 unfold asIter at h;split at h<;>simp at h;subst h;rfl
theorem ERels.filter {l l':List MapEntry} (hs:ERels μ l l') (p:Nat→Bool):ERels μ (l.filter fun e=>p e.born) (l'.filter fun e=>p e.born):=by
 induction hs with
 |nil=>exact .nil
 |cons hk hv hb t ih=>
  simp only[List.filter_cons,hb]
  split
  ·exact .cons hk hv hb ih
  ·exact ih
theorem ERels.all_born {l l':List MapEntry} (hs:ERels μ l l') (p:Nat→Bool):(l.all fun e=>p e.born)=(l'.all fun e=>p e.born):=by
 induction hs with
 |nil=>rfl
 |cons hk hv hb t ih=>simp only[List.all_cons,hb,ih]
theorem ERels.find {l l':List MapEntry} (hs:ERels μ l l') (p:Nat→Bool) {e:MapEntry} (he:l.find? (fun e=>p e.born)=some e):∃e',l'.find? (fun e=>p e.born)=some e'∧VRel μ e.key e'.key∧VRel μ e.val e'.val:=by
 induction hs with
 |nil=>simp at he
 |cons hk hv hb t ih=>
  simp only[List.find?_cons]at he ⊢
  rw[←hb]
  split at he
  ·cases he;exact⟨_,rfl,hk,hv⟩
  ·exact ih he
theorem next_sim (H:HRel E base B μ h w) {isStr:Bool} {r:Nat} {m:MT} {v:Value} {h':AHeap} (ty:TypeId) (ha:anext h isStr r base=some (v,h')) (hb:μ r=some m):
 EffSim P E base B μ h w (Instr.next (.pointer (some ⟨m.r,0,none⟩)) isStr ty) v h':=by
 unfold anext at ha
 simp only[grd_some,ble_iff]at ha
 obtain⟨hbase,ha⟩:=ha
 obtain⟨o1,o2,k1,k2,k3⟩:=H.obj r m hb
 split at ha
 ·rename_i s pos hg
  rw[hg]at k1;cases k1
  cases k3 with
  |siter hms=>
   have hgo:=run_getObj_map (P:=P) k2 (fun _ _ _=>by simp)
   have hso:=fun o=>run_setObj' (P:=P) (o:=o) k2 (fun _ _ _=>by simp)
   rw[bif_eq]at ha
   split at ha
   ·rename_i hlt
    rw[blt_iff]at hlt
    simp only[Option.some.injEq,Prod.mk.injEq]at ha
    obtain⟨rfl,rfl⟩:=ha
    have st:=Step.put H hb hbase hg rfl rfl (Upd.set w m.r (.stringIter s (pos+(Utf8.decode s pos).2)) (H.lt hb)) (.siter hms)
    refine⟨μ,_,_,?_,.tuple_of (by simpa[goInt]using VRels.cons (.bool μ true) (.cons (.int μ .i64 pos) (.cons (.int μ .i32 (Utf8.decode s pos).1) .nil))),st⟩
    unfold Instr.next
    simp only[Sem.run_bind,hgo,Result.andThen_ok]
    rw[if_pos hlt]
    simp only[Sem.run_bind,hso,Result.andThen_ok,Sem.run_pure]
    rfl
   ·rename_i hlt
    rw[blt_iff]at hlt
    simp only[Option.some.injEq,Prod.mk.injEq]at ha
    obtain⟨rfl,rfl⟩:=ha
    refine⟨μ,_,w,?_,.tuple_of (by simpa using VRels.cons (.bool μ false) .nil),.refl H⟩
    unfold Instr.next
    simp only[Sem.run_bind,hgo,Result.andThen_ok]
    rw[if_neg hlt]
    rfl
 ·rename_i hg
  rw[hg]at k1;cases k1
  cases k3 with
  |miter0 hms=>
   have hgo:=run_getObj_map (P:=P) k2 (fun _ _ _=>by simp)
   simp only[Option.some.injEq,Prod.mk.injEq]at ha
   obtain⟨rfl,rfl⟩:=ha
   refine⟨μ,_,w,?_,.tuple_of (by simpa using VRels.cons (.bool μ false) .nil),.refl H⟩
   unfold Instr.next
   simp only[Sem.run_bind,hgo,Result.andThen_ok]
   rfl
 ·rename_i mm since seen last hg
  rw[hg]at k1;cases k1
  cases k3 with
  |miter hk hms=>
   rename_i mk
   have hgo:=run_getObj_map (P:=P) k2 (fun _ _ _=>by simp)
   have hso:=fun o=>run_setObj' (P:=P) (o:=o) k2 (fun _ _ _=>by simp)
   split at ha
   ·rename_i es clock hgm
    obtain⟨p1,p2,j1,j2,j3⟩:=H.obj mm mk hk
    rw[hgm]at j1;cases j1
    cases j3 with
    |map hs=>
     rename_i es'
     have hgom:=run_getObj_map (P:=P) j2 (fun _ _ _=>by simp)
     simp only[grd_some]at ha
     obtain⟨hc1,ha⟩:=ha
     have hlen:=hs.length
     have hemp:es'.isEmpty=es.isEmpty:=by
      cases es<;>cases h9:es'.toList<;>rw[h9]at hlen<;>simp at hlen
      ·have:es'= #[]:=by apply Array.ext';simp[h9]
       simp[this]
      ·have:es'.size≠0:=by have:=congrArg List.length h9;simp at this;omega
       simp[Array.isEmpty,this]
     have hall:(es'.all fun e=>decide (e.born≥last))=es.all (fun e=>Nat.ble last e.born):=by
      rw[←Array.all_toList,←hs.all_born (fun n=>decide (n≥last))]
      congr 1
      funext e
      rw[Bool.eq_iff_iff,ble_iff];simp
     have hcond:(!seen.toArray.isEmpty&& !es'.isEmpty&&es'.all fun e=>decide (e.born≥last))=false:=by
      rw[hemp,hall]
      have:seen.toArray.isEmpty=seen.isEmpty:=by cases seen<;>simp
      rw[this]
      simpa only[Bool.not_eq_true']using hc1
     have hfil:=hs.filter (fun n=> !seen.contains n)
     have hleft:(es'.filter fun e=> !seen.toArray.contains e.born).toList=es'.toList.filter (fun e=> !seen.contains e.born):=by
      simp
     split at ha
     ·rename_i hf
      simp only[Option.some.injEq,Prod.mk.injEq]at ha
      obtain⟨rfl,rfl⟩:=ha
      rw[hf]at hfil
      have hl0:(es'.filter fun e=> !seen.toArray.contains e.born)= #[]:=by
       apply Array.ext'
       rw[hleft]
       cases hfil':es'.toList.filter (fun e=> !seen.contains e.born)with
       |nil=>rfl
       |cons x y=>rw[hfil']at hfil;cases hfil
      refine⟨μ,_,w,?_,.tuple_of (by simpa using VRels.cons (.bool μ false) .nil),.refl H⟩
      unfold Instr.next
      simp only[Sem.run_bind,hgo,hgom,Result.andThen_ok,hcond,Bool.false_eq_true,if_false,hl0]
      simp[Question.forced]
     ·rename_i e hf
      simp only[grd_some,blt_iff,Option.some.injEq,Prod.mk.injEq]at ha
      obtain⟨hborn,rfl,rfl⟩:=ha
      rw[hf]at hfil
      cases hfil':es'.toList.filter (fun e=> !seen.contains e.born)with
      |nil=>rw[hfil']at hfil;cases hfil
      |cons e' rest=>
       rw[hfil']at hfil
       cases hfil with
       |cons q1 q2 q3 q4=>cases q4 with
        |nil=>
        have hl1:(es'.filter fun e=> !seen.toArray.contains e.born)= #[e']:=by
         apply Array.ext';rw[hleft,hfil']
        have hbe:e'.born<since:=by omega
        have st:=Step.put (o:=.miter (some mm) since (seen++[e.born]) clock) H hb hbase hg rfl rfl (Upd.set w m.r (.mapIter (some mk.r) since (seen.toArray.push e'.born) clock) (H.lt hb)) (by
         have:=ORel.miter (μ:=μ) (h:=h.put r (.miter (some mm) since (seen++[e.born]) clock)) (base:=base) (b:=r) (m:=m) (since:=since) (last:=clock) (seen:=seen++[e.born]) hk hms
         rw[q3]at this ⊢
         simpa using this)
        refine⟨μ,_,_,?_,.tuple_of (by simpa using VRels.cons (.bool μ true) (.cons q1 (.cons q2 .nil))),st⟩
        unfold Instr.next
        simp only[Sem.run_bind,hgo,hgom,Result.andThen_ok,hcond,Bool.false_eq_true,if_false,hl1]
        have f1:(#[e'].filter fun x=>decide (x.born<since))= #[e']:=by simp[hbe]
        have f2:(#[e'].filter fun x=>decide (x.born≥since))= #[]:=by simp;omega
        simp only[f1,f2]
        simp[Question.forced,hso]
     ·cases ha
   ·cases ha
 ·cases ha
theorem entry_sim (H:HRel E base B μ h w) {r:Nat} {m:MT} {v:Value} (ha:aentry h r=some v) (hb:μ r=some m):
 ∃v',VRel μ v v'∧(Instr.entry (.pointer (some ⟨m.r,0,none⟩))).run P w= .ok v' w:=by
 unfold aentry at ha
 obtain⟨o1,o2,k1,k2,k3⟩:=H.obj r m hb
 split at ha
 ·rename_i mm since seen stepped hg
  rw[hg]at k1;cases k1
  cases k3 with
  |miter hk hms=>
   rename_i mk
   have hgo:=run_getObj_map (P:=P) k2 (fun _ _ _=>by simp)
   split at ha
   ·rename_i es clock hgm
    obtain⟨p1,p2,j1,j2,j3⟩:=H.obj mm mk hk
    rw[hgm]at j1;cases j1
    cases j3 with
    |map hs=>
     rename_i es'
     have hgom:=run_getObj_map (P:=P) j2 (fun _ _ _=>by simp)
     simp only[Option.bind_eq_some_iff,grd_some,beq_iff,Option.some.injEq]at ha
     obtain⟨stamp,h1,h2,e,h3,rfl⟩:=ha
     obtain⟨e',q1,q2,q3⟩:=hs.find (fun n=>n==stamp) h3
     refine⟨_,.tuple_of (by simpa using VRels.cons q2 (.cons q3 .nil)),?_⟩
     have hback:seen.toArray.back? =some stamp:=by simpa using h1
     have hfind:es'.find? (fun e=>e.born==stamp)=some e':=by rw[←Array.find?_toList];exact q1
     subst h2
     unfold Instr.entry
     simp only[Sem.run_bind,hgo,hgom,Result.andThen_ok,hback,hfind]
     simp
   ·cases ha
 ·cases ha
end
end Go.M
