/-
  Part 2 of the library that the proof leans on.
-/
import Derived.Test.YteoljjhhdgplnaaGreatDoorL1
namespace Go.M
open Go
theorem AP:∀(l:List Value) (k off:Nat) (c:Array Value),off+k+l.length≤c.size→
 ((l.zipIdx k).foldl (fun cs p=>cs.setIfInBounds (off+p.2) p.1) c).size=c.size∧
 ∀i,((l.zipIdx k).foldl (fun cs p=>cs.setIfInBounds (off+p.2) p.1) c)[i]? =if off+k≤i∧i<off+k+l.length then l[i - (off+k)]? else c[i]?
 |[],k,off,c,h=>⟨rfl,fun i=>by rw[if_neg (by simp)];rfl⟩
 |v::l,k,off,c,h=>by
  simp only[List.length_cons]at h;have ih:=AP l (k+1) off (c.setIfInBounds (off+k) v) (by simp;omega);simp only[List.zipIdx_cons,List.foldl_cons];refine⟨by rw[ih.1];simp,fun i=>?_⟩;rw[ih.2 i];by_cases h1:off+(k+1)≤i∧i<off+(k+1)+l.length
  ·rw[if_pos h1,if_pos (by simp;omega)];have:i - (off+k)=(i - (off+(k+1)))+1:=by omega
   rw[this,List.getElem?_cons_succ]
  ·rw[if_neg h1];by_cases h2:i=off+k
   ·subst h2;rw[if_pos (by simp),Array.getElem?_setIfInBounds_self_of_lt om];simp
   ·rw[if_neg (by simp;omega),Array.getElem?_setIfInBounds_ne om]
theorem rN {μ:bn} {place place':Nat→Option (Nat×Nat)} (hp:∀i p,place i=some p→place' i=some p):∀{ps ps':List (Nat×Value)} {cells cs:List Value} {cells':Array Value},
 jS place cells ps=some cs→ax μ cells cells'.toList→(ps.length=ps'.length)→(∀(k:Nat) q,ps[k]? =some q→∃v',ps'[k]? =some (q.1,v')∧aq μ q.2 v')→
 ∃cs',Instr.fill place' cells' ps'=some cs'∧ax μ cs cs'.toList
 |[],ps',cells,cs,cells',h,hr,hl,hq=>by
  cases ps' with
  |nil=>simp only[jS,Option.some.injEq]at h;subst h;exact⟨cells',rfl,hr⟩
  |cons _ _=>simp at hl
 |(i,v)::ps,[],_,_,_,_,_,hl,_=>by simp at hl
 |(i,v)::ps,q'::ps',cells,cs,cells',h,hr,hl,hq=>by
  obtain⟨v',e1,hv⟩:=hq 0 (i,v) rfl;simp only[List.getElem?_cons_zero,Option.some.injEq]at e1;subst e1;simp only at hv;simp only[jS,Option.bind_eq_some_iff,aj,beq_iff]at h;obtain⟨⟨off,size⟩,h1,h2,c1,h3,h4⟩:=h;simp only at h2;obtain⟨s1,s2,s3⟩:=dq h3;have hlen:=hr.length;have Ry:=hv.vQ;have nZ:off+v'.cells.toList.length≤cells'.size:=by
   simp at s1 hlen ⊢;omega
  have zf:=AP v'.cells.toList 0 off cells' om;have td:ax μ c1 (v'.cells.zipIdx.foldl (fun cs p=>cs.setIfInBounds (off+p.2) p.1) cells').toList:=by
   have e:v'.cells.zipIdx.foldl (fun cs (p:Value×Nat)=>cs.setIfInBounds (off+p.2) p.1) cells'=(v'.cells.toList.zipIdx 0).foldl (fun cs p=>cs.setIfInBounds (off+p.2) p.1) cells':=by
    rw[←Array.foldl_toList];simp
   rw[e];refine .EV ?_ fun j a a' ha vV=>?_
   ·simp only[Array.length_toList];rw[zf.1,s2];simpa using hlen
   ·rw[s3 j]at ha;rw[Array.getElem?_toList,zf.2 j]at vV;simp only[Nat.add_zero]at vV;have Ws:v.cells.toList.length=v'.cells.toList.length:=by simpa using Ry
    by_cases hj:off≤j∧j<off+v.cells.toList.length
    ·simp only at ha;rw[if_pos hj]at ha;rw[if_pos (by rw[←Ws];exact hj)]at vV;obtain⟨u,k1,k2⟩:=hv.cells.get ha;rw[vV]at k1;cases k1;exact k2
    ·simp only at ha;rw[if_neg hj]at ha;rw[if_neg (by rw[←Ws];exact hj)]at vV;obtain⟨u,k1,k2⟩:=hr.get ha;simp[vV]at k1;subst k1;exact k2
  have ih:=rN hp (ps':=ps') h4 td (by simpa using hl) (fun k q hk=>hq (k+1) q (by simpa using hk));obtain⟨cs',r1,r2⟩:=ih;refine⟨cs',?_,r2⟩;simp only[Instr.fill,hp _ _ h1];have hs:v'.cells.size=size:=by rw[←Ry];exact h2
  rw[if_neg]
  ·exact r1
  ·simp at nZ;simp[hs];omega
def Wt (μ:bn) (ps ps':List (Nat×Value)):Prop:=ps.length=ps'.length∧∀(k:Nat) q,ps[k]? =some q→∃v',ps'[k]? =some (q.1,v')∧aq μ q.2 v'
section
variable {P:Program} {E:Env} {μ:bn}
theorem Cu (hE:bw P E) (g:Field→Nat×Nat):∀(fs:List Field) (w:World),(∀f∈fs,∃n,E.size f.type=some n∧g f=(f.offset,n))→
 (fs.mapM (m:=Sem) fun f=>do pure (f.offset,←sizeOf f.type)).run P w= .ok (fs.map g) w
 |[],w,_=>by simp
 |f::fs,w,h=>by
  obtain⟨n,h1,h2⟩:=h f (by simp);have ih:=Cu hE g fs w (fun x hx=>h x (by simp[hx]));simp only[List.mapM_cons,Sem.run_bind,fL hE h1 w,Result.andThen_ok,Sem.run_pure,ih,List.map_cons,h2]
theorem Pg (hE:bw P E) {t:TypeId} {ps ps':List (Nat×Value)} {v:Value} (h:s7 E t ps=some v) (hp:Wt μ ps ps'):∃v',aq μ v v'∧fu P (Instr.build t ps'.toArray) v':=by
 unfold s7 at h;simp only[Option.bind_eq_some_iff]at h;obtain⟨d,h1,z,h2,h3⟩:=h;have hz:=aq.b9 μ (hE.zero t z h2).2;have VJ:ax μ z.cells.toList z.cells.toList:=hz.cells;split at h3
 ·rename_i fields;simp only[aj,Option.bind_eq_some_iff,Option.some.injEq]at h3;obtain⟨kr,cs,h4,rfl⟩:=h3;have SZ:∀f∈fields.toList,∃n,E.size f.type=some n∧(fun f:Field=>(f.offset,(E.size f.type).getD 0)) f=(f.offset,n):=by
   intro f hf;rw[Array.all_eq_true]at kr;obtain⟨i,hi,rfl⟩:=List.mem_iff_getElem.1 hf;have:=kr i (by simpa using hi);obtain⟨n,hn⟩:=Option.isSome_iff_exists.1 this;have Ph:E.size (fields.toList[i]).type=some n:=by simpa using hn
   exact⟨n,Ph,by simp only[Ph,Option.getD_some]⟩
  have S5:∀i p,qp E fields i=some p→((fields.toList.map (fun f:Field=>(f.offset,(E.size f.type).getD 0))).toArray)[i]? =some p:=by
   intro i p hi;unfold qp at hi;simp only[Option.bind_eq_some_iff,Option.some.injEq]at hi;obtain⟨fd,k1,n,k2,rfl⟩:=hi;simp[k1,k2]
  obtain⟨cs',q1,q2⟩:=rN (μ:=μ) S5 (ps':=ps') h4 VJ hp.1 hp.2;refine⟨.agg cs',.gd (by simpa using q2),fun w=>?_⟩;have hm:=Cu hE (fun f:Field=>(f.offset,(E.size f.type).getD 0)) fields.toList w SZ;unfold Instr.build;simp only[Sem.run_bind,kq hE h2 w,Result.andThen_ok,aC hE h1 w];have ZR:(fields.mapM (m:=Sem) fun f=>do pure (f.offset,←sizeOf f.type)).run P w= .ok (fields.toList.map (fun f:Field=>(f.offset,(E.size f.type).getD 0))).toArray w:=by
   rw[Array.mapM_eq_mapM_toList];simp only[Sem.run_map,hm,Result.andThen_ok]
  simp only[ZR,Result.andThen_ok,q1,Sem.run_pure]
 ·rename_i len elem;simp only[Option.bind_eq_some_iff,Option.some.injEq]at h3;obtain⟨n,h3,cs,h4,rfl⟩:=h3;obtain⟨cs',q1,q2⟩:=rN (μ:=μ) (place':=fun i=>some (i*n,n)) (fun _ _ h=>h) (ps':=ps') h4 VJ hp.1 hp.2;refine⟨.agg cs',.gd (by simpa using q2),fun w=>?_⟩;unfold Instr.build;simp only[Sem.run_bind,kq hE h2 w,Result.andThen_ok,aC hE h1 w,fL hE h3 w,q1,Sem.run_pure]
 ·cases h3
theorem uu {s:Sem Value} {v:Value} (h:eA s=some v):fu P s v:=by
 intro w;cases s<;>simp[eA]at h;subst h;rfl
theorem qz (hE:bw P E) {op:BinOp} {t:TypeId} {x y:Operand} {a b a' b':Value} (ha:aq μ a a') (hb:aq μ b b')
 (hg:mU E t x y a b=true):fu P (eqGuard op t x y a' b') ():=by
 intro w;unfold eqGuard;cases op<;>(try rfl)
 all_goals
  simp only[Bool.not_true,Bool.false_eq_true,if_false];split
  ·cases ha with
   |lit _=>cases hb with
    |lit _=>
     simp only[mU]at hg;cases x<;>cases y<;>simp[ox]at hg<;>simp
    |AH _=>simp[mU]at hg
   |AH _=>simp[mU]at hg
  ·rename_i u1 u2;cases ha with
   |lit hh=>simp[ay]at hh
   |agg h1 h2=>cases hb with
    |lit hh=>simp[ay]at hh
    |agg k1 k2=>
     simp only[mU]at hg;simp[run_program,(hE.rF t hg).1]
    |AH hh=>rcases hh with hh|⟨_,_,hh⟩<;>cases hh
   |AH hh=>rcases hh with hh|⟨_,_,hh⟩<;>cases hh
  ·rfl
theorem Wu (hE:bw P E) {op:BinOp} {t:TypeId} {x y:Operand} {a b a' b' v:Value} (h:vO E op t x y a b=some v) (ha:aq μ a a') (hb:aq μ b b'):
 ∃v',aq μ v v'∧fu P (do eqGuard op t x y a' b';binOp op t a' b') v':=by
 unfold vO at h;split at h
 ·cases ha.ar rfl;cases hb.ar rfl;rename_i k n k' n';have hs:scalar v=true:=by
   simp only[binOp]at h;have:∀s:Sem Value,eA s=some v→(∃u,s= .pure u∧scalar u=true)→scalar v=true:=by
    rintro s hs ⟨u,rfl,hu⟩;simp[eA]at hs;subst hs;exact hu
   cases op<;>simp only at h<;>(try split at h)<;>
    first
    |(simp[eA,stuck]at h;done)
    |(simp only[eA,Op.intArith,Op.intBits,Op.intCmp,Pure.pure,Option.some.injEq]at h;subst h;rfl)
    |(unfold Op.intDiv at h;split at h
      ·simp[runtimePanic,eA,program,bind,Sem.bind]at h
      ·simp only[eA,Pure.pure,Option.some.injEq]at h;subst h;rfl)
    |(unfold Op.shift at h;split at h
      ·simp[runtimePanic,eA,program,bind,Sem.bind]at h
      ·simp only[eA,Pure.pure,Option.some.injEq]at h;subst h;rfl)
  refine⟨v,.px μ hs,fun w=>?_⟩;have hg:=qz hE (μ:=μ) (op:=op) (t:=t) (x:=x) (y:=y) (.int μ k n) (.int μ k' n') rfl w;simp only[Sem.run_bind,hg,Result.andThen_ok];exact uu h w
 ·cases ha.ar rfl;cases hb.ar rfl;rename_i s r;have hg:∀w,(eqGuard op t x y (.string s) (.string r)).run P w= .ok () w:=qz hE (μ:=μ) (.string μ s) (.string μ r) rfl;have et:∀q:ByteArray,q.toList=q.data.toList:=fun q=>ByteArray.toList_eq q;split at h<;>(first|(simp only[Option.some.injEq]at h;subst h;refine⟨_,.lit rfl,fun w=>?_⟩;simp only[Sem.run_bind,hg w,Result.andThen_ok];simp[binOp,Op.stringOp,et])|skip)
  ·simp only[aj,decide_eq_true_eq,Option.some.injEq]at h;obtain⟨h1,rfl⟩:=h;refine⟨_,.lit rfl,fun w=>?_⟩;simp only[Sem.run_bind,hg w,Result.andThen_ok];have e:IntKind.i64.max=9223372036854775807:=by decide
   simp only[binOp,Op.stringOp,e];rw[if_neg om];rfl
  ·cases h
 ·rename_i G8 AQ;simp only[aj]at h;obtain⟨h1,h2⟩:=h;have hg:=qz hE (op:=op) (t:=t) (x:=x) (y:=y) ha hb h1;have key:∀r,u3 E 100 t a b=some r→fu P (Op.equal t a' b') r:=fun r hr=>by
   unfold Op.equal Op.maxDepth;exact Wr hE 100 10000 t a b a' b' r om hr ha hb
  have Rz:∀(w:World) r,fu P (Op.equal t a' b') r→(binOp .eql t a' b').run P w= .ok (.bool r) w∧(binOp .neq t a' b').run P w= .ok (.bool !r) w:=by
   intro w r hr;have hh:(∀k n k' n',¬(a'= .int k n∧b'= .int k' n'))∧(∀s r,¬(a'= .string s∧b'= .string r)):=by
    refine⟨?_,?_⟩
    ·rintro k n k' n' ⟨rfl,rfl⟩;cases ha with
     |AH hh=>rcases hh with hh|⟨_,_,hh⟩<;>cases hh
     |lit _=>cases hb with
      |AH hh=>rcases hh with hh|⟨_,_,hh⟩<;>cases hh
      |lit _=>exact G8 _ _ _ _ rfl rfl
    ·rintro s r ⟨rfl,rfl⟩;cases ha with
     |AH hh=>rcases hh with hh|⟨_,_,hh⟩<;>cases hh
     |lit _=>cases hb with
      |AH hh=>rcases hh with hh|⟨_,_,hh⟩<;>cases hh
      |lit _=>exact AQ _ _ rfl rfl
   have qA:(∀k n k' n',¬(a'= .float k n∧b'= .float k' n'))∧(∀k x y k' x' y',¬(a'= .complex k x y∧b'= .complex k' x' y')):=by
    refine⟨?_,?_⟩
    ·rintro k n k' n' ⟨rfl,rfl⟩;cases ha with|lit hx=>simp[ay]at hx|AH hh=>rcases hh with hh|⟨_,_,hh⟩<;>cases hh
    ·rintro k x y k' x' y' ⟨rfl,rfl⟩;cases ha with|lit hx=>simp[ay]at hx|AH hh=>rcases hh with hh|⟨_,_,hh⟩<;>cases hh
   have ku:=hr w
   cases a'<;>cases b'<;>
    first
    |exact absurd ⟨rfl,rfl⟩ (hh.1 _ _ _ _)
    |exact absurd ⟨rfl,rfl⟩ (hh.2 _ _)
    |exact absurd ⟨rfl,rfl⟩ (qA.1 _ _ _ _)
    |exact absurd ⟨rfl,rfl⟩ (qA.2 _ _ _ _ _ _)
    |(simp only[binOp];simp only[Sem.run_bind,ku,Result.andThen_ok,Sem.run_pure];exact⟨trivial,trivial⟩)
  split at h2
  ·simp only[Option.bind_eq_some_iff,Option.some.injEq]at h2;obtain⟨r,h3,rfl⟩:=h2;exact⟨_,.bool μ r,fun w=>by simp only[Sem.run_bind,hg w,Result.andThen_ok];exact(Rz w r (key r h3)).1⟩
  ·simp only[Option.bind_eq_some_iff,Option.some.injEq]at h2;obtain⟨r,h3,rfl⟩:=h2;exact⟨_,.bool μ _,fun w=>by simp only[Sem.run_bind,hg w,Result.andThen_ok];exact(Rz w r (key r h3)).2⟩
  ·cases h2
end
theorem gC (r o n:Nat):(⟨r,o,none⟩:Addr).add n=⟨r,o+n,none⟩:=by
 unfold Addr.add;by_cases h:n=0
 ·simp[h]
 ·simp[h]
def rO (μ:bn) (x x':Option Value):Prop:=match x,x' with
 |none,none=>True
 |some v,some v'=>aq μ v v'
 |_,_=>False
theorem fM {IH y:Nat} {x:Option Value} {n:Nat} (h:cq IH y x=some n):(x=none∧n=IH)∨(∃k i,x=some (.int k i)∧0≤i∧i≤y∧n=i.toNat):=by
 unfold cq at h;split at h
 ·simp at h;exact .inl ⟨rfl,h.symm⟩
 ·simp only[aj,Bool.and_eq_true,decide_eq_true_eq,Option.some.injEq]at h;exact .inr ⟨_,_,rfl,h.1.1,h.1.2,h.2.symm⟩
 ·cases h
theorem dJ {P:Program} {k:IntKind} {i:Int} {y:Nat} (h0:0≤i) (h1:i≤y) (code:BoundsCode):fu P (Instr.sliceBound (.int k i) y code) i.toNat:=by
 intro w;simp[Instr.sliceBound,asIntOf,h0,h1]
theorem lL {P:Program} {μ:bn} (isSlice:Bool) {len cap cap':Nat} (IL:len≤cap') {lo hi mx VK yI K8:Option Value} {m h l:Nat}
 (hm:cq cap len mx=some m) (hh:cq len (bif mx.isSome then m else len) hi=some h) (hg:(hi.isSome||mx.isNone)=true) (hl:cq 0 h lo=some l)
 (rl:rO μ lo VK) (rh:rO μ hi yI) (rm:rO μ mx K8):
 fu P (Instr.sliceBounds isSlice len cap' VK yI K8) (l,h,if mx.isSome then m else cap')∧l≤h∧h≤len∧(mx.isSome=true→m≤len∧h≤m)∧(mx=none→m=cap):=by
 have key:∀{x x':Option Value} {k:IntKind} {i:Int},x=some (.int k i)→rO μ x x'→x'=some (.int k i):=by
  intro x x' k i hx hr;subst hx;cases x' with
  |none=>exact hr.elim
  |some v'=>rw[aq.ar hr rfl]
 have Cv:∀{x x':Option Value},x=none→rO μ x x'→x'=none:=by
  intro x x' hx hr;subst hx;cases x' with
  |none=>rfl
  |some v'=>exact hr.elim
 have uv:l≤h:=by
  rcases fM hl with⟨_,rfl⟩|⟨k,i,_,h0,h1,rfl⟩<;>omega
 rcases fM hm with⟨em,rfl⟩|⟨k,i,em,m0,m1,rfl⟩
 ·have Wv:=Cv em rm;subst em;subst Wv;simp only[Option.isSome_none,cond_false]at hh;rcases fM hh with⟨eh,rfl⟩|⟨k2,i2,eh,p0,p1,rfl⟩
  ·have Ww:=Cv eh rh;subst eh;subst Ww;refine⟨fun w=>?_,uv,Nat.le_refl _,fun h=>by simp at h,fun _=>rfl⟩;rcases fM hl with⟨el,rfl⟩|⟨k3,i3,el,q0,q1,rfl⟩
   ·have Lb:=Cv el rl;subst el;subst Lb;simp[Instr.sliceBounds]
   ·have Lb:=key el rl;subst el;subst Lb;simp[Instr.sliceBounds,dJ q0 q1 _ w]
  ·have Ww:=key eh rh;subst eh;subst Ww;refine⟨fun w=>?_,uv,om,fun h=>by simp at h,fun _=>rfl⟩;rcases fM hl with⟨el,rfl⟩|⟨k3,i3,el,q0,q1,rfl⟩
   ·have Lb:=Cv el rl;subst el;subst Lb;simp[Instr.sliceBounds,dJ p0 (show i2≤(cap':Int) by omega) _ w]
   ·have Lb:=key el rl;subst el;subst Lb;simp[Instr.sliceBounds,dJ p0 (show i2≤(cap':Int) by omega) _ w,dJ q0 q1 _ w]
 ·have Wv:=key em rm;subst em;subst Wv;simp only[Option.isSome_some,cond_true]at hh;rcases fM hh with⟨eh,rfl⟩|⟨k2,i2,eh,p0,p1,rfl⟩
  ·subst eh;simp at hg
  ·have Ww:=key eh rh;subst eh;subst Ww;refine⟨fun w=>?_,uv,om,fun _=>⟨om,om⟩,fun h=>by simp at h⟩;rcases fM hl with⟨el,rfl⟩|⟨k3,i3,el,q0,q1,rfl⟩
   ·have Lb:=Cv el rl;subst el;subst Lb;simp[Instr.sliceBounds,dJ m0 (show i≤(cap':Int) by omega) _ w,dJ p0 p1 _ w]
   ·have Lb:=key el rl;subst el;subst Lb;simp[Instr.sliceBounds,dJ m0 (show i≤(cap':Int) by omega) _ w,dJ p0 p1 _ w,dJ q0 q1 _ w]
section
variable {P:Program} {E:Env} {μ:bn}
theorem IM (hE:bw P E) {t:TypeId} {x x' v:Value} {lo hi mx VK yI K8:Option Value} (h:il E t x lo hi mx=some v) (hx:aq μ x x') (rl:rO μ lo VK) (rh:rO μ hi yI) (rm:rO μ mx K8):
 ∃v',aq μ v v'∧fu P (Instr.sliceAt t x' VK yI K8) v':=by
 unfold il at h;simp only[Option.bind_eq_some_iff]at h;obtain⟨d,hd,h⟩:=h;split at h
 ·rename_i s;cases hx.ar rfl;simp only[aj,Option.bind_eq_some_iff,Option.some.injEq]at h;obtain⟨hm,hh,h1,ll,h2,rfl⟩:=h;have em:mx=none:=by simpa using hm
  subst em
  have Wv:K8=none:=by cases K8 with
   |none=>rfl
   |some v'=>exact rm.elim
  subst Wv;have gb:=(lL (P:=P) (μ:=μ) false (cap':=s.size) (Nat.le_refl _) (cap:=s.size) (mx:=none) (K8:=none) rfl (by simpa using h1) (by simp) h2 rl rh trivial).1;refine⟨_,.string μ _,fun w=>?_⟩;simp[Instr.sliceAt,aC hE hd w,Instr.slice,gb w]
 ·cases hx with
  |lit _=>
  simp only[Option.bind_eq_some_iff,aj,Option.some.injEq]at h;obtain⟨size,hs,m,hm,hh,h1,hg,ll,h2,rfl⟩:=h;obtain⟨gb,q1,q2,q3,q4⟩:=lL (P:=P) (μ:=μ) true (cap':=0) (Nat.le_refl _) hm h1 hg h2 rl rh rm;refine⟨_,.lit rfl,fun w=>?_⟩;have e0:hh=0:=by omega
  have e1:ll=0:=by omega
  subst e0;subst e1;have e2:(if mx.isSome=true then m else 0)=0:=by
   cases ju:mx.isSome with
   |true=>have:=(q3 ju).1;simp;omega
   |false=>simp
  simp only[Instr.sliceAt,Sem.run_bind,aC hE hd w,Result.andThen_ok,Instr.slice,gb w,fL hE hs w,Sem.run_pure,e2];simp
 ·rename_i elem b o z len cap;simp only[Option.bind_eq_some_iff,aj,beq_iff,Option.some.injEq]at h;obtain⟨size,hs,e,m,hm,hh,h1,hg,ll,h2,rfl⟩:=h;subst e
  have main:∀(a':Addr) (cap':Nat),x'= .slice (some a') len cap'→len≤cap'→∃m',fu P (Instr.sliceAt t x' VK yI K8) (.slice (some (if m'=ll then a' else a'.add (ll*size))) (hh - ll) (m' - ll))∧
   (m'=if mx.isSome then m else cap')∧ll≤hh∧hh≤len∧(mx.isSome=true→m≤len∧hh≤m)∧(mx=none→m=cap):=by
   intro a' cap' ex IL;obtain⟨gb,q1,q2,q3,q4⟩:=lL (P:=P) (μ:=μ) true IL hm h1 hg h2 rl rh rm;refine⟨if mx.isSome then m else cap',fun w=>?_,rfl,q1,q2,q3,q4⟩;subst ex;simp only[Instr.sliceAt,Sem.run_bind,aC hE hd w,Result.andThen_ok,Instr.slice,gb w,fL hE hs w,Sem.run_pure]
   congr 2
   by_cases hz:(if mx.isSome=true then m else cap')=ll
   ·rw[if_pos hz,if_pos hz]
   ·rw[if_neg hz,if_neg hz];rfl
  cases hx with
  |lit hh=>simp[ay]at hh
  |slice hb k1 k2 k3 k4=>
   rename_i cap' mt;obtain⟨m',g1,e1,q1,q2,q3,q4⟩:=main _ _ rfl k2;refine⟨_,?_,g1⟩;by_cases hz:m'=ll
   ·rw[if_pos hz];have e2:hh - ll=0:=by
     cases ju:mx.isSome with
     |true=>have:=q3 ju;rw[ju]at e1;simp at e1;omega
     |false=>rw[ju]at e1;simp at e1;omega
    rw[e2,show m' - ll=0 by omega];simp only[bZ];split<;>exact .cS fun _=>⟨_,hb⟩
   ·rw[if_neg hz,gC];have hmc:m≠ll:=by
     intro e2;cases ju:mx.isSome with
     |true=>rw[ju]at e1;simp at e1;omega
     |false=>
      have:=q4 (by simpa using ju);rw[ju]at e1;simp at e1;have:=k3 om;omega
    simp only[bZ,beq_iff,if_neg hmc];have ZS:m'≤cap':=by
     cases ju:mx.isSome with
     |true=>have:=q3 ju;rw[ju]at e1;simp at e1;omega
     |false=>rw[ju]at e1;simp at e1;omega
    have S6:ll≤m':=by
     cases ju:mx.isSome with
     |true=>have:=q3 ju;rw[ju]at e1;simp at e1;omega
     |false=>rw[ju]at e1;simp at e1;omega
    have e3:mt.s+o+ll*size=mt.s+(o+ll*size):=by omega
    rw[e3];refine .slice hb ?_ ?_ ?_ ?_
    ·cases ju:mx.isSome with
     |true=>have:=q3 ju;omega
     |false=>have:=q4 (by simpa using ju);omega
    ·cases ju:mx.isSome with
     |true=>have:=q3 ju;rw[ju]at e1;simp at e1;omega
     |false=>rw[ju]at e1;simp at e1;omega
    ·intro e4;cases ju:mx.isSome with
     |true=>have:=q3 ju;rw[ju]at e1;simp at e1;omega
     |false=>
      have:=q4 (by simpa using ju);rw[ju]at e1;simp at e1;have:=k3 om;omega
    ·have:ll*size+(m' - ll)*size=m'*size:=by rw[←Nat.add_mul];congr 1;omega
     have:m'*size≤cap'*size:=Nat.mul_le_mul_right _ ZS;omega
  |cS hb=>
   rename_i a';obtain⟨m',g1,e1,q1,q2,q3,q4⟩:=main a' 0 rfl (Nat.le_refl _);refine⟨_,?_,g1⟩;have EW:m'=0:=by
    cases ju:mx.isSome with
    |true=>have:=q3 ju;rw[ju]at e1;simp at e1;omega
    |false=>rw[ju]at e1;simp at e1;omega
   have vo:ll=0:=by omega
   have Wx:hh=0:=by omega
   subst EW;subst vo;subst Wx;simp only[if_true,Nat.sub_zero];simp only[bZ];have hk:m≠0→_:=fun hc=>hb (by
    cases ju:mx.isSome with
    |true=>have:=q3 ju;omega
    |false=>have:=q4 (by simpa using ju);omega)
   split
   ·exact .cS fun hc=>hk om
   ·exact .cS fun hc=>hk om
 ·cases h
theorem Cw (hE:bw P E) {t:TypeId} {x x' i i' v:Value} (h:fg E t x i=some v) (hx:aq μ x x') (hi:aq μ i i'):∃v',aq μ v v'∧fu P (Instr.indexAt t x' i') v':=by
 unfold fg at h;simp only[Option.bind_eq_some_iff]at h;obtain⟨d,hd,n,hn,h⟩:=h;have ei:∃k,i= .int k n:=by
  unfold Pf at hn;split at hn<;>simp at hn;subst hn;exact⟨_,rfl⟩
 obtain⟨k,rfl⟩:=ei;cases hi.ar rfl;split at h
 ·rename_i len elem b o;simp only[Option.bind_eq_some_iff,aj,Bool.and_eq_true,decide_eq_true_eq,Option.some.injEq]at h;obtain⟨size,hs,⟨h0,h1⟩,rfl⟩:=h;obtain⟨m,hb,rfl⟩:=hx.jZ;refine⟨.pointer (some ⟨m.r,m.s+(o+n.toNat*size),none⟩),.ptr hb,fun w=>?_⟩;simp[Instr.indexAt,asIntOf,aC hE hd w,Instr.sureAddr,h0,h1,fL hE hs w,gC,Nat.add_assoc]
 ·rename_i elem b o z len cap;simp only[Option.bind_eq_some_iff,aj,Bool.and_eq_true,decide_eq_true_eq,Option.some.injEq]at h;obtain⟨size,hs,⟨h0,h1⟩,rfl⟩:=h;cases hx with
  |lit hh=>simp[ay]at hh
  |slice hb k1 k2 k3 k4=>
   rename_i cap' m;refine⟨.pointer (some ⟨m.r,m.s+(o+n.toNat*size),none⟩),.ptr hb,fun w=>?_⟩;simp[Instr.indexAt,asIntOf,aC hE hd w,h0,h1,fL hE hs w,gC,Nat.add_assoc]
  |cS=>exact absurd h1 om
 ·cases h
theorem Pj (hE:bw P E) {t:TypeId} {x x' i i' v:Value} (h:s8 E t x i=some v) (hx:aq μ x x') (hi:aq μ i i'):∃v',aq μ v v'∧fu P (Instr.index t x' i') v':=by
 unfold s8 at h;simp only[Option.bind_eq_some_iff]at h;obtain⟨d,hd,n,hn,h⟩:=h;have ei:∃k,i= .int k n:=by
  unfold Pf at hn;split at hn<;>simp at hn;subst hn;exact⟨_,rfl⟩
 obtain⟨k,rfl⟩:=ei;cases hi.ar rfl;split at h
 ·rename_i len elem cs;simp only[Option.bind_eq_some_iff,aj,Bool.and_eq_true,decide_eq_true_eq]at h;obtain⟨size,hs,⟨h0,h1⟩,h2⟩:=h;obtain⟨cs',rfl,hr⟩:=hx.fi;obtain⟨v',q1,q2⟩:=AO hE (μ:=μ) h2 hr;refine⟨v',q1,fun w=>?_⟩;have e:cs'.toList.toArray=cs':=by simp
  rw[e]at q2;simp only[Instr.index,asIntOf,Sem.run_bind,Sem.run_pure,Result.andThen_ok,aC hE hd w];rw[if_pos ⟨h0,h1⟩];simp only[Sem.run_bind,fL hE hs w,Result.andThen_ok,q2 w]
 ·rename_i s;simp only[aj,decide_eq_true_eq,Option.bind_eq_some_iff,Option.some.injEq]at h;obtain⟨h0,b,hb,rfl⟩:=h;cases hx.ar rfl;refine⟨_,.int μ _ _,fun w=>?_⟩;have e:s[n.toNat]? =some b:=by
   have:=(List.getElem?_eq_some_iff.1 hb);obtain⟨bF,hv⟩:=this;have S7:n.toNat<s.size:=by simpa using bF
   rw[getElem?_pos s n.toNat S7];simp only[Option.some.injEq];rw[←hv];rfl
  simp only[Instr.index,asIntOf,Sem.run_bind,Sem.run_pure,Result.andThen_ok,aC hE hd w];rw[if_pos h0,e];rfl
 ·cases h
theorem S8 (hE:bw P E) {s d:TypeId} {x x' v:Value} (h:p9 E s d x=some v) (hx:aq μ x x'):∃v',aq μ v v'∧fu P (convert s d x') v':=by
 unfold p9 at h;simp only[Option.bind_eq_some_iff]at h;obtain⟨ds,h1,dd,h2,h⟩:=h;split at h
 ·rename_i k k' n;cases hx.ar rfl;simp only[Option.some.injEq]at h;subst h;refine⟨_,.int μ _ _,fun w=>?_⟩;unfold convert;simp only[Sem.run_bind,aC hE h1 w,aC hE h2 w,Result.andThen_ok];rfl
 ·rename_i str;cases hx.ar rfl;simp only[Option.some.injEq]at h;subst h;refine⟨_,.string μ _,fun w=>?_⟩;unfold convert;simp only[Sem.run_bind,aC hE h1 w,aC hE h2 w,Result.andThen_ok];cases ds<;>rfl
 ·cases h
theorem Lc (hE:bw P E) {b:Builtin} {ts:Array TypeId} {args:List Value} {args':Array Value} {v:Value} (ty:TypeId) (cs:Array Bool) (h:pt E b ts.toList args=some v) (ha:ax μ args args'.toList):
 ∃v',aq μ v v'∧fu P (builtin b ts ty cs args') (.value v'):=by
 obtain⟨ts⟩:=ts;obtain⟨args'⟩:=args';simp only at h ha;unfold pt at h;split at h
 ·rename_i t ts x xs;cases ha with
  |cons hx _=>
  simp only[Option.bind_eq_some_iff]at h;obtain⟨d,hd,h⟩:=h;split at h
  ·cases hx.ar rfl;simp only[Option.some.injEq]at h;subst h;exact⟨_,.int μ _ _,fun w=>by simp[builtin,Builtin.len_,aC hE hd w,goInt]⟩
  ·simp only[Option.some.injEq]at h;subst h;exact⟨_,.int μ _ _,fun w=>by simp[builtin,Builtin.len_,aC hE hd w,goInt]⟩
  ·simp only[Option.some.injEq]at h;subst h;cases hx with
   |lit hh=>
    rename_i a n c;have:∃q,a=none∧n=0∧c=0∧q=0:=by
     unfold ay at hh;split at hh<;>simp_all
    obtain⟨_,rfl,rfl,rfl,_⟩:=this;exact⟨_,.int μ _ _,fun w=>by simp[builtin,Builtin.len_,aC hE hd w,goInt]⟩
   |slice=>exact⟨_,.int μ _ _,fun w=>by simp[builtin,Builtin.len_,aC hE hd w,goInt]⟩
   |cS=>exact⟨_,.int μ _ _,fun w=>by simp[builtin,Builtin.len_,aC hE hd w,goInt]⟩
  ·simp only[Option.some.injEq]at h;subst h;cases hx;exact⟨_,.int μ _ _,fun w=>by simp[builtin,Builtin.len_,aC hE hd w,goInt]⟩
  ·cases h
 ·simp only[Option.some.injEq]at h;subst h;cases ha with
  |cons hx ha=>cases ha with
   |cons hy ha=>cases ha with
    |nil=>
     cases hx.ar rfl;cases hy.ar rfl;exact⟨_,.int μ _ _,fun w=>by simp[builtin,Builtin.max_,Builtin.max2]⟩
 ·simp only[Option.some.injEq]at h;subst h;cases ha with
  |cons hx ha=>cases ha with
   |cons hy ha=>cases ha with
    |nil=>
     cases hx.ar rfl;cases hy.ar rfl;exact⟨_,.int μ _ _,fun w=>by simp[builtin,Builtin.min_,Builtin.min2]⟩
 ·rename_i t ts;simp only[Option.bind_eq_some_iff]at h;obtain⟨d,hd,h⟩:=h;split at h
  ·simp only[Option.some.injEq]at h;subst h;cases ha with
   |cons hx ha=>cases ha with
    |nil=>
     cases hx with
     |lit hh=>exact⟨_,.int μ _ _,fun w=>by simp[builtin,Builtin.cap_,aC hE hd w,goInt]⟩
  ·cases h
 ·cases h
end
def gk (E:Env) (μ:bn):Prop:=∀g,E.dv g=true→∃m,μ g=some m∧m.r=g∧m.s=0
section
variable {P:Program} {E:Env} {μ:bn} {f:AF} {a:Act}
theorem a8 (hg:gk E μ) (hf:cU μ f a.tmps) {x:Operand} {v:Value} (h:ev E f x=some v):aq μ v (a.eval x):=by
 cases x with
 |tmp t=>simp only[ev,Option.some.injEq]at h;subst h;exact hf.get t
 |const c=>simp only[ev,aj,Option.some.injEq]at h;obtain⟨h1,rfl⟩:=h;exact .b9 μ h1
 |global g=>
  simp only[ev,aj,Option.some.injEq]at h;obtain⟨h1,rfl⟩:=h;obtain⟨m,h2,h3,h4⟩:=hg g h1;have:=aq.ptr (o:=0) h2;rw[h3,h4]at this;exact this
 |func g=>simp only[ev,Option.some.injEq]at h;subst h;exact .func rfl (fun i v v' h=>by simp at h) rfl (fun i v v' h=>by simp at h)
theorem j6 (hg:gk E μ) (hf:cU μ f a.tmps):∀{xs:List Operand} {vs:List Value},EO E f xs=some vs→ax μ vs (xs.map a.eval)
 |[],vs,h=>by simp only[EO,Option.some.injEq]at h;subst h;exact .nil
 |x::xs,vs,h=>by
  simp only[EO,Option.bind_eq_some_iff,Option.some.injEq]at h;obtain⟨v,h1,l,h2,rfl⟩:=h;exact .cons (a8 hg hf h1) (j6 hg hf h2)
theorem oG (hg:gk E μ) (hf:cU μ f a.tmps):∀{xs:List (Nat×Operand)} {vs:List (Nat×Value)},ig E f xs=some vs→Wt μ vs (xs.map fun p=>(p.1,a.eval p.2))
 |[],vs,h=>by simp only[ig,Option.some.injEq]at h;subst h;exact⟨rfl,fun k q h=>by simp at h⟩
 |(i,x)::xs,vs,h=>by
  simp only[ig,Option.bind_eq_some_iff,Option.some.injEq]at h;obtain⟨v,h1,l,h2,rfl⟩:=h;obtain⟨e1,e2⟩:=oG hg hf h2;refine⟨by simpa using e1,fun k q hk=>?_⟩;cases k with
  |zero=>simp at hk;subst hk;exact⟨_,rfl,a8 hg hf h1⟩
  |succ k=>simp at hk;obtain⟨v',q1,q2⟩:=e2 k q hk;exact⟨v',by simpa using q1,q2⟩
theorem te (hg:gk E μ) (hf:cU μ f a.tmps) {x:Option Operand} {v:Option Value} (h:ov E f x=some v):rO μ v (x.map a.eval):=by
 cases x with
 |none=>simp only[ov,Option.some.injEq]at h;subst h;trivial
 |some x=>
  simp only[ov,Option.bind_eq_some_iff,Option.some.injEq]at h;obtain⟨u,h1,rfl⟩:=h;exact a8 hg hf h1
theorem kx {v:Value} {p:Nat×Nat} (h:iR v=some p):v= .pointer (some ⟨p.1,p.2,none⟩):=by
 unfold iR at h;split at h<;>simp at h;subst h;rfl
theorem Cy {v:Value} {n:Int} (h:Pf v=some n):∃k,v= .int k n:=by
 unfold Pf at h;split at h<;>simp at h;subst h;exact⟨_,rfl⟩
theorem vW {v:Value} {n:Bool} (h:Cg v=some n):v= .bool n:=by
 unfold Cg at h;split at h<;>simp at h;subst h;rfl
theorem Ld {v:Value} {n:List Value} (h:Wj v=some n):∃cs:Array Value,v= .agg cs∧n=cs.toList:=by
 unfold Wj at h;split at h<;>simp at h;subst h;exact⟨_,rfl,rfl⟩
theorem AS {op:UnOp} {a v:Value} (h:eA (Op.unary op a)=some v) (ha:scalar a=true):scalar v=true:=by
 cases op<;>cases a<;>simp[scalar]at ha<;>simp only[Op.unary,Op.intArith,Op.intBits,eA,stuck,Pure.pure,Option.some.injEq]at h<;>first|(subst h;rfl)|cases h
theorem ky (hE:bw P E) {kt:TypeId} {kd:TypeDesc} (h:E.desc kt=some kd) (hs:ik kd=true) (e:Bool) (n:Nat) (k:Value):fu P (Instr.checkKey e (n+1) kt k) ():=by
 intro w;cases kd<;>simp[ik]at hs<;>simp[Instr.checkKey,aC hE h w]
set_option maxHeartbeats 1000000 in
theorem py (hE:bw P E) (hg:gk E μ) (hf:cU μ f a.tmps) {o:Oper} {v:Value} (h:aI E f o=some v):∃v',aq μ v v'∧fu P (execOp a.eval o) (.value v'):=by
 obtain⟨dst,op,type,pos,after,guard⟩:=o;cases op
 case move x=>simp only[aI]at h;exact⟨_,a8 hg hf h,fun w=>rfl⟩
 case assign x=>simp only[aI]at h;exact⟨_,a8 hg hf h,fun w=>rfl⟩
 case pick c x y=>
  simp only[aI,Option.bind_eq_some_iff]at h;obtain⟨cv,h1,b,h2,h3⟩:=h;have e:=vW h2;subst e;have hc:=(a8 hg hf h1).ar rfl;cases b with
  |true=>exact⟨_,a8 hg hf h3,fun w=>by simp[execOp,hc,asBool]⟩
  |false=>exact⟨_,a8 hg hf h3,fun w=>by simp[execOp,hc,asBool]⟩
 case build t parts=>
  simp only[aI,Option.bind_eq_some_iff]at h;obtain⟨ps,h1,h2⟩:=h;obtain⟨v',q1,q2⟩:=Pg hE h2 (oG hg hf h1);refine⟨v',q1,fun w=>?_⟩;have e:(parts.map fun(i,x)=>(i,a.eval x))=(parts.toList.map fun p=>(p.1,a.eval p.2)).toArray:=by
   apply Array.ext';simp
  simp only[execOp,Sem.run_bind];rw[e,q2 w];rfl
 case nilCheck x=>
  simp only[aI,Option.bind_eq_some_iff]at h;obtain⟨u,h1,h2⟩:=h;have hr:=a8 hg hf h1;generalize hq:a.eval x=q at hr;unfold l6 at h2;split at h2
  ·simp only[Option.some.injEq]at h2;subst h2;cases hr with
   |lit hh=>simp[ay]at hh
   |ptr hb=>exact⟨_,.ptr hb,fun w=>by simp[execOp,hq]⟩
  ·simp only[Option.some.injEq]at h2;subst h2;cases hr with
   |lit hh=>simp[ay]at hh
   |func h1 h2 h3 h4=>exact⟨_,.func h1 h2 h3 h4,fun w=>by simp[execOp,hq]⟩
  ·simp only[Option.some.injEq]at h2;subst h2;cases hr with
   |lit hh=>simp[ay]at hh
   |yield hb=>exact⟨_,.yield hb,fun w=>by simp[execOp,hq]⟩
  ·cases h2
 case binOp op t x y yt=>
  simp only[aI,Option.bind_eq_some_iff]at h;obtain⟨u,h1,u2,h2,h3⟩:=h;obtain⟨v',q1,q2⟩:=Wu hE h3 (a8 hg hf h1) (a8 hg hf h2);refine⟨v',q1,fun w=>?_⟩;simp only[execOp];rw[Sem.run_bind,q2 w];rfl
 case unOp op t x=>
  simp only[aI,Option.bind_eq_some_iff,aj]at h;obtain⟨u,h1,hs,h2⟩:=h;have e:=(a8 hg hf h1).ar hs;refine⟨v,.px μ (AS h2 hs),fun w=>?_⟩;simp only[execOp,Sem.run_bind,e,uu (P:=P) h2 w,Result.andThen_ok,Sem.run_pure]
 case convert s d x=>
  simp only[aI,Option.bind_eq_some_iff]at h;obtain⟨u,h1,h2⟩:=h;obtain⟨v',q1,q2⟩:=S8 hE h2 (a8 hg hf h1);refine⟨v',q1,fun w=>?_⟩;simp only[execOp,Sem.run_bind,q2 w,Result.andThen_ok,Sem.run_pure]
 case makeInterface t x=>
  simp only[aI,Option.bind_eq_some_iff]at h;obtain⟨d,hd,u,h1,h2⟩:=h;refine⟨.iface t (a.eval x),?_,fun w=>?_⟩
  ·split at h2
   ·cases h2
   ·simp only[Option.some.injEq]at h2;subst h2;exact .iface (a8 hg hf h1)
  ·simp only[execOp,Sem.run_bind,Instr.makeInterface,aC hE hd w,Result.andThen_ok];split at h2
   ·cases h2
   ·cases d<;>first|rfl |(exfalso;simp at*)
 case makeFunc fn first captured=>
  simp only[aI]at h;split at h
  ·simp only[Option.bind_eq_some_iff,Option.some.injEq]at h;obtain⟨x,h1,y,h2,rfl⟩:=h;have r1:=j6 hg hf h1;have r2:=j6 hg hf h2;refine⟨.func (.func _) (first.map a.eval) (captured.map a.eval),.func ?_ ?_ ?_ ?_,fun w=>?_⟩
   ·have:=r1.length;simpa using this
   ·intro i u u' hu SV;obtain⟨u2,k1,k2⟩:=r1.get (i:=i) (v:=u) (by simpa using hu);have:u'=u2:=by
     simp only[Array.getElem?_map]at SV;simp only[List.getElem?_map,Array.getElem?_toList]at k1;rw[SV]at k1;exact Option.some.inj k1
    subst this;exact k2
   ·have:=r2.length;simpa using this
   ·intro i u u' hu SV;obtain⟨u2,k1,k2⟩:=r2.get (i:=i) (v:=u) (by simpa using hu);have:u'=u2:=by
     simp only[Array.getElem?_map]at SV;simp only[List.getElem?_map,Array.getElem?_toList]at k1;rw[SV]at k1;exact Option.some.inj k1
    subst this;exact k2
   ·simp[execOp,Instr.makeFunc]
  ·cases h
 case slice t x lo hi mx=>
  simp only[aI,Option.bind_eq_some_iff]at h;obtain⟨u,h1,l,h2,hh,h3,m,h4,h5⟩:=h;obtain⟨v',q1,q2⟩:=IM hE h5 (a8 hg hf h1) (te hg hf h2) (te hg hf h3) (te hg hf h4);refine⟨v',q1,fun w=>?_⟩;simp only[execOp,Sem.run_bind,q2 w,Result.andThen_ok,Sem.run_pure]
 case fieldAddr s x fd=>
  simp only[aI,Option.bind_eq_some_iff]at h;obtain⟨d,hd,u,h1,p,h2,h3⟩:=h;have e:=kx h2;subst e;obtain⟨m,hb,ex⟩:=(a8 hg hf h1).jZ;split at h3
  ·simp only[Option.bind_eq_some_iff,aj,aR,Option.some.injEq]at h3;obtain⟨fl,h4,n,h5,h6,rfl⟩:=h3;refine⟨.pointer (some ⟨m.r,m.s+(p.2+fl.offset),none⟩),.ptr hb,fun w=>?_⟩;have hn:n≠0:=by omega
   simp[execOp,Instr.fieldAt,aC hE hd w,h4,ex,Instr.sureAddr,fieldPlace,fL hE h5 w,hn,gC,Nat.add_assoc]
  ·cases h3
 case field t x fd=>
  simp only[aI,Option.bind_eq_some_iff]at h;obtain⟨d,hd,u,h1,cs,h2,h3⟩:=h;obtain⟨ca,e,rfl⟩:=Ld h2;subst e;obtain⟨cs',ex,hr⟩:=(a8 hg hf h1).fi;split at h3
  ·simp only[Option.bind_eq_some_iff]at h3;obtain⟨fl,h4,h5⟩:=h3;obtain⟨v',q1,q2⟩:=AO hE (μ:=μ) h5 hr;have e:cs'.toList.toArray=cs':=by simp
   rw[e]at q2;refine⟨v',q1,fun w=>?_⟩;simp only[execOp,Instr.field,Sem.run_bind,aC hE hd w,Result.andThen_ok,h4,ex,asAgg,Sem.run_pure,q2 w]
  ·cases h3
 case indexAddr t x ix=>
  simp only[aI,Option.bind_eq_some_iff]at h;obtain⟨u,h1,u2,h2,h3⟩:=h;obtain⟨v',q1,q2⟩:=Cw hE h3 (a8 hg hf h1) (a8 hg hf h2);refine⟨v',q1,fun w=>?_⟩;simp only[execOp,Sem.run_bind,q2 w,Result.andThen_ok,Sem.run_pure]
 case index t x ix=>
  simp only[aI,Option.bind_eq_some_iff]at h;obtain⟨u,h1,u2,h2,h3⟩:=h;obtain⟨v',q1,q2⟩:=Pj hE h3 (a8 hg hf h1) (a8 hg hf h2);refine⟨v',q1,fun w=>?_⟩;simp only[execOp,Sem.run_bind,q2 w,Result.andThen_ok,Sem.run_pure]
 case extract t ix=>
  simp only[aI,Option.bind_eq_some_iff]at h;obtain⟨u,h1,h2⟩:=h;split at h2
  ·obtain⟨mZ,ex,hr⟩:=(a8 hg hf h1).II;obtain⟨v',k1,k2⟩:=hr.get h2;refine⟨v',k2,fun w=>?_⟩;have k1':mZ[ix]? =some v':=by simpa using k1
   simp[execOp,Instr.extract,ex,k1']
  ·cases h2
 case lookup t x ix ok=>
  simp only[aI,Option.bind_eq_some_iff]at h;obtain⟨d,hd,m,h1,k,h2,h3⟩:=h;split at h3
  ·rename_i kt elem;simp only[Option.bind_eq_some_iff,aj,Bool.and_eq_true,Option.some.injEq]at h3;obtain⟨kd,ir,z,hz,⟨⟨s1,s2⟩,s3⟩,rfl⟩:=h3;have e1:a.eval x= .map none:=by
    have:=a8 hg hf h1;generalize a.eval x=q at this;cases this;rfl
   have e2:=(a8 hg hf h2).ar s2;have ZT:∀w,(Instr.checkKey true 10000 kt k).run P w= .ok () w:=fun w=>ky hE ir s1 true 9999 k w;have Cz:∀w,(Instr.findKey kt k []).run P w= .ok none w:=by
    intro w;simp[Instr.findKey,aC hE ir w,Instr.findNow]
   refine⟨(if ok then .tuple #[z,.bool false]else z),?_,fun w=>?_⟩
   ·have qB:=aq.b9 μ s3;cases ok with
    |true=>simp only[cond_true,if_true];exact .dC (by simpa using ax.cons qB (.cons (.bool μ false) .nil))
    |false=>simpa using qB
   ·simp[execOp,Instr.lookup,aC hE hd w,e1,e2,ZT w,Cz w,kq hE hz w]
  ·cases h3
 case call c=>
  simp only[aI]at h;split at h
  ·rename_i b hb;simp only[Option.bind_eq_some_iff]at h;obtain⟨args,h1,h2⟩:=h;have hr:=j6 hg hf h1;obtain⟨v',q1,q2⟩:=Lc hE (ts:=c.argTypes) (args':=c.args.map a.eval) type (c.args.map fun | .const _=>true|_=>false) h2 (by simpa using hr);refine⟨v',q1,fun w=>?_⟩;simp only[execOp,resolve,hb,Sem.run_bind,Sem.run_pure,Result.andThen_ok,invoke];exact q2 w
  ·cases h
 all_goals(simp only[aI]at h;cases h)
end
theorem di (z:List Value):∀n,(aP z n).length=n*z.length
 |0=>by simp[aP]
 |n+1=>by simp[aP,di z n,Nat.add_mul];omega
theorem uw (z:List Value):∀(n i:Nat),i<n*z.length→(aP z n)[i]? =z[i % z.length]?
 |0,i,h=>by simp at h
 |n+1,i,h=>by
  simp only[aP];by_cases hi:i<z.length
  ·rw[List.getElem?_append_left hi,Nat.mod_eq_of_lt hi]
  ·rw[List.getElem?_append_right om,uw z n (i - z.length) (by rw[Nat.add_mul]at h;omega)]
   congr 1
   rw[←Nat.mod_eq_sub_mod om]
theorem ax.aP {μ:bn} {z:List Value} (h:ax μ z z):∀n,ax μ (aP z n) (aP z n)
 |0=>.nil
 |n+1=>h.append (h.aP n)
theorem rP (z:Array Value) (n:Nat) (hz:0<z.size):((Array.range (n*z.size)).map (z[· % z.size]!)).toList=aP z.toList n:=by
 apply List.ext_getElem?;intro i;by_cases hi:i<n*z.size
 ·rw[uw z.toList n i (by simpa using hi)];have hm:i % z.size<z.size:=Nat.mod_lt _ hz;simp[hi,hm]
 ·have h1:(aP z.toList n)[i]? =none:=by
   rw[List.getElem?_eq_none_iff,di];simpa using hi
  rw[h1];simp;omega
section
variable {P:Program} {E:Env} {μ:bn} {f:AF} {a:Act}
structure Le (P:Program) (μ:bn) (s:Sem Next) (md:Made) (hd:qq) (o':Obj) (n:Nat) (hv:Nat→Value):Prop where
 run:∀w:World,s.run P w= .ok (.value (hv w.heap.size)) {w with heap:=w.heap.push o'}
 val:∀(aS:bn) b r,aS b=some ⟨r,0,n⟩→aq aS (hd.val b) (hv r)
 obj:∀(aS:bn) h base b r,μ.le aS→iM aS h base b ⟨r,0,n⟩ (md.obj b) o'
theorem me {cs cs':List Value} (hr:ax μ cs cs') (e:TypeId) (aS:bn) (h:ab) (base b r:Nat) (hle:μ.le aS) (f cO aO:Nat) (rest:Array Value) (c:Array Value) (hc:c.toList=cs'++rest.toList):
 iM aS h base b ⟨r,0,c.size⟩ (.cells cs f cO aO) (.cells c e (0,0)):=by
 have hl:=hr.length;have hs:c.size=cs'.length+rest.size:=by
  have:=congrArg List.length hc;simpa using this
 refine .cells rfl (by simp only;omega) (fun _=>Rt _) fun _ i v hv=>?_;obtain⟨v',h1,h2⟩:=hr.get hv;refine⟨v',?_,h2.mono hle⟩;have hi:=(List.getElem?_eq_some_iff.1 h1).1;rw[←Array.getElem?_toList,hc,Nat.zero_add,List.getElem?_append_left hi];exact h1
theorem m3 (hE:bw P E) (hg:gk E μ) (hf:cU μ f a.tmps) {o:Oper} {md:Made} {hd:qq} (h:bc E f o=some (md,hd)):
 ∃o' n hv,Le P μ (execOp a.eval o) md hd o' n hv:=by
 obtain⟨dst,op,type,pos,after,guard⟩:=o;cases op
 case alloc t=>
  simp only[bc,Option.bind_eq_some_iff,Option.some.injEq,Prod.mk.injEq]at h;obtain⟨z,hz,rfl,rfl⟩:=h;have qB:=(aq.b9 μ (hE.zero t z hz).2).cells;refine⟨.cells z.cells t (0,0),z.cells.size,fun r=>.pointer (some ⟨r,0,none⟩),fun w=>?_,fun aS b r hb=>?_,fun aS h base b r hle=>?_⟩
  ·simp[execOp,Instr.alloc,kq hE hz w,newVar,newRow]
  ·have:=aq.ptr (o:=0) hb;simpa[qq.val]using this
  ·exact me qB t aS h base b r hle _ _ _ #[] z.cells (by simp)
 case box t x=>
  simp only[bc,Option.bind_eq_some_iff,Option.some.injEq,Prod.mk.injEq]at h;obtain⟨v,hv,rfl,rfl⟩:=h;have hr:=(a8 hg hf hv).cells;refine⟨.cells (a.eval x).cells t (0,0),(a.eval x).cells.size,fun r=>.pointer (some ⟨r,0,none⟩),fun w=>?_,fun aS b r hb=>?_,fun aS h base b r hle=>?_⟩
  ·simp[execOp,Instr.box,newVar,newRow]
  ·have:=aq.ptr (o:=0) hb;simpa[qq.val]using this
  ·exact me hr t aS h base b r hle _ _ _ #[] _ (by simp)
 case buildSlice t len parts=>
  simp only[bc,Option.bind_eq_some_iff]at h;obtain⟨d,Cj,ps,h1,h2⟩:=h;split at h2
  ·rename_i elem;simp only[Option.bind_eq_some_iff,aj,Bool.and_eq_true,aG,beq_iff,Option.some.injEq,Prod.mk.injEq]at h2;obtain⟨n,hn,z,hz,⟨hk,jj⟩,cs,h3,rfl,rfl⟩:=h2;have hp:=oG hg hf h1;have qB:=(aq.b9 μ (hE.zero elem z hz).2).cells
   let fN:Array Value:=(aP z.cells.toList len).toArray
   obtain⟨cs',q1,q2⟩:=rN (μ:=μ) (place':=fun i=>some (i*n,n)) (fun _ _ h=>h) (cells':=fN) (ps':=parts.toList.map fun p=>(p.1,a.eval p.2)) h3 (by simpa[fN]using qB.aP len) hp.1 hp.2;have fG:cs.length=len*n:=by
    have:∀{ps:List (Nat×Value)} {c r:List Value},jS (fun i=>some (i*n,n)) c ps=some r→r.length=c.length:=by
     intro ps
     induction ps with
     |nil=>intro c r h;simp only[jS,Option.some.injEq]at h;subst h;rfl
     |cons p ps ih=>
      intro c r h;simp only[jS,Option.bind_eq_some_iff,aj]at h;obtain⟨q,_,_,c1,h4,h5⟩:=h;rw[ih h5,(dq h4).2.1]
    rw[this h3,di];simp[jj]
   refine⟨.cells cs' elem (0,0),cs'.size,fun r=>.slice (some ⟨r,0,none⟩) len len,fun w=>?_,fun aS b r hb=>?_,fun aS h base b r hle=>?_⟩
   ·have e:(parts.map fun(i,x)=>(i,a.eval x))=(parts.toList.map fun p=>(p.1,a.eval p.2)).toArray:=by
     apply Array.ext';simp
    have S9:len*n=0→∀g:Nat→Value,(Array.range (len*n)).map g=fN:=by
     intro h0 g;apply Array.ext';have:(aP z.cells.toList len)=[]:=by
      apply List.eq_nil_of_length_eq_zero;rw[di];simpa[jj]using h0
     simp[h0,fN,this]
    have Ta:len*n≠0→(Array.range (len*n)).map (z.cells[· % z.cells.size]!)=fN:=by
     intro h0;apply Array.ext';have yJ:0<z.cells.size:=by
      rw[jj];exact Nat.pos_of_ne_zero fun e=>h0 (by rw[e];simp)
     have:=rP z.cells len yJ;rw[jj]at this;simp only[fN];rw[←this,jj]
    unfold execOp;simp only[Sem.run_bind,Instr.buildSlice,aC hE Cj w,Result.andThen_ok,fL hE hn w];rw[if_neg om];by_cases h0:len*n=0
    ·rw[if_pos h0];simp only[Sem.run_bind,Sem.run_pure,Result.andThen_ok];rw[S9 h0,e,q1];rfl
    ·rw[if_neg h0];simp only[Sem.run_bind,Sem.run_pure,Result.andThen_ok,kq hE hz w];rw[Ta h0,e,q1];rfl
   ·have:=aq.slice (o:=0) (z:=n) hb (Nat.le_refl len) (Nat.le_refl len) (fun h=>h) (by simp only;have:=q2.length;simp at this;omega);simpa[qq.val]using this
   ·exact me q2 elem aS h base b r hle _ _ _ #[] cs' (by simp)
  ·cases h2
 case makeMap t r=>
  cases r with
  |none=>
   simp only[bc,Option.some.injEq,Prod.mk.injEq]at h;obtain⟨rfl,rfl⟩:=h;refine⟨.map #[] 0,0,fun r=>.map (some r),fun w=>?_,fun aS b r hb=>?_,fun aS h base b r hle=>?_⟩
   ·simp[execOp,Instr.makeMap]
   ·exact .map hb
   ·exact .map (by simpa using cD.nil)
  |some r=>simp only[bc]at h;cases h
 case makeSlice t l c=>
  simp only[bc,Option.bind_eq_some_iff]at h;obtain⟨d,Cj,lv,h1,cv,h2,l1,h3,c1,h4,h5⟩:=h;obtain⟨k1,e1⟩:=Cy h3;subst e1;obtain⟨k2,e2⟩:=Cy h4;subst e2;have el:=(a8 hg hf h1).ar rfl;have ec:=(a8 hg hf h2).ar rfl;split at h5
  ·rename_i elem;simp only[Option.bind_eq_some_iff,aj,Bool.and_eq_true,beq_iff,decide_eq_true_eq,Option.some.injEq,Prod.mk.injEq]at h5;obtain⟨n,hn,bytes,hb,z,hz,⟨⟨⟨jj,vo⟩,IL⟩,dr⟩,rfl,rfl⟩:=h5;obtain⟨ti,VM,OZ⟩:=AN hE hb;have qB:=(aq.b9 μ (hE.zero elem z hz).2).cells;obtain⟨ln,rfl⟩:=Int.eq_ofNat_of_zero_le vo;obtain⟨cn,rfl⟩:=Int.eq_ofNat_of_zero_le (show 0≤c1 by omega);have ZU:ln≤cn:=by omega
   have ZV:(cn+1)*(bytes+1)≤1099511627776:=by
    have:(((cn+1)*(bytes+1):Nat):Int)≤1099511627776:=by push_cast;exact dr
    omega
   have Tb:cn+1≤1099511627776:=Nat.le_trans (Nat.le_mul_of_pos_right _ om) ZV;have Wq:bytes*cn≤1099511627776:=by
    have:bytes*cn≤(cn+1)*(bytes+1):=by rw[Nat.mul_comm];exact Nat.mul_le_mul om om
    omega
   let fN:Array Value:=(aP z.cells.toList cn).toArray
   refine⟨.cells fN elem (0,0),fN.size,fun r=>.slice (some ⟨r,0,none⟩) ln cn,fun w=>?_,fun aS b r hb=>?_,fun aS h base b r hle=>?_⟩
   ·have wl:IntKind.i64.wrap (ln:Int)=ln:=IntWalk.i64_in _ om;have wc:IntKind.i64.wrap (cn:Int)=cn:=IntWalk.i64_in _ om;have nt:(decide ((cn:Int)<0)||decide ((ti.bytes:Int)*(cn:Int)>2 ^ 48))=false:=by
     rw[VM];have:((bytes*cn:Nat):Int)≤1099511627776:=by omega
     simp only[Bool.or_eq_false_iff,decide_eq_false_iff_not];refine⟨om,?_⟩;have e:(2:Int) ^ 48=281474976710656:=by decide
     rw[e]
     push_cast at this
     omega
    have S9:cn*n=0→∀g:Nat→Value,(Array.range (cn*n)).map g=fN:=by
     intro h0 g;apply Array.ext';have:(aP z.cells.toList cn)=[]:=by
      apply List.eq_nil_of_length_eq_zero;rw[di];simpa[jj]using h0
     simp[h0,fN,this]
    have Ta:cn*n≠0→(Array.range (cn*n)).map (z.cells[· % z.cells.size]!)=fN:=by
     intro h0;apply Array.ext';have yJ:0<z.cells.size:=by
      rw[jj];exact Nat.pos_of_ne_zero fun e=>h0 (by rw[e];simp)
     have:=rP z.cells cn yJ;rw[jj]at this;simp only[fN];rw[←this,jj]
    unfold execOp;simp only[Sem.run_bind,Instr.makeSlice,aC hE Cj w,Result.andThen_ok,el,ec,asInt,asIntOf,Sem.run_pure,OZ w,wl,wc,nt];rw[if_neg (by simp;omega)];simp only[Sem.run_bind,run_askRoom,Result.andThen_ok,fL hE hn w,Int.toNat_natCast];by_cases h0:cn*n=0
    ·rw[if_pos h0];simp only[Sem.run_bind,Sem.run_pure,Result.andThen_ok];rw[S9 h0];rfl
    ·rw[if_neg h0];simp only[Sem.run_bind,Sem.run_pure,Result.andThen_ok,kq hE hz w];rw[Ta h0];rfl
   ·have qa:fN.size=cn*n:=by simp[fN,di,jj]
    by_cases e:ln=cn
    ·subst e;have:=aq.slice (o:=0) (z:=n) hb (Nat.le_refl ln) (Nat.le_refl ln) (fun h=>h) (by simp only;omega);simpa[qq.val]using this
    ·have:=aq.slice (o:=0) (z:=n) (len:=ln) (cap:=ln+1) (cap':=cn) hb om ZU (fun h=>by omega) (by simp only;omega);simpa[qq.val,e,bZ]using this
   ·have Tc:aP z.cells.toList cn=aP z.cells.toList ln++aP z.cells.toList (cn - ln):=by
     have:∀a b,aP z.cells.toList (a+b)=aP z.cells.toList a++aP z.cells.toList b:=by
      intro a b
      induction a with
      |zero=>simp[M.aP]
      |succ a ih=>rw[Nat.succ_add];simp[M.aP,ih]
     rw[←this];congr 1;omega
    exact me (qB.aP ln) elem aS h base b r hle _ _ _ (aP z.cells.toList (cn - ln)).toArray fN (by simp[fN,Tc])
  ·cases h5
 case range t x=>
  simp only[bc,Option.bind_eq_some_iff]at h;obtain⟨d,Cj,v,h1,h2⟩:=h;split at h2
  ·rename_i s;simp only[Option.some.injEq,Prod.mk.injEq]at h2;obtain⟨rfl,rfl⟩:=h2;have ex:=(a8 hg hf h1).ar rfl;refine⟨.stringIter s 0,0,fun r=>.pointer (some ⟨r,0,none⟩),fun w=>?_,fun aS b r hb=>?_,fun aS h base b r hle=>.iQ rfl⟩
   ·simp[execOp,Instr.range,aC hE Cj w,ex]
   ·have:=aq.ptr (o:=0) hb;simpa[qq.val]using this
  ·simp only[Option.some.injEq,Prod.mk.injEq]at h2;obtain⟨rfl,rfl⟩:=h2;have ex:a.eval x= .map none:=by
    have:=a8 hg hf h1;generalize a.eval x=q at this;cases this;rfl
   refine⟨.mapIter none 0 #[] 0,0,fun r=>.pointer (some ⟨r,0,none⟩),fun w=>?_,fun aS b r hb=>?_,fun aS h base b r hle=>.lK rfl⟩
   ·simp[execOp,Instr.range,aC hE Cj w,ex]
   ·have:=aq.ptr (o:=0) hb;simpa[qq.val]using this
  ·cases h2
 all_goals(simp only[bc]at h;cases h)
end
theorem run_getObj_map {P:Program} {w:World} {r:Nat} {o:Obj} (h:w.heap[r]? =some o) (ho:∀c e f,o≠ .cells c e f):(getObj r).run P w= .ok o w:=by
 unfold getObj;simp only[Sem.run,h]
theorem jx {μ:bn} {kd:TypeDesc} {k:Value}:∀{es bT:List MapEntry} {i:Nat} {r:Option (Nat×Value)},cD μ es bT→Instr.findNow kd k es i=some r→
 ∃r',Instr.findNow kd k bT i=some r'∧(r=none→r'=none)∧(∀j v,r=some (j,v)→∃v',r'=some (j,v')∧aq μ v v')
 |[],bT,i,r,h,hr=>by
  cases h with
  |nil=>simp only[Instr.findNow,Option.some.injEq]at hr;subst hr;exact⟨none,rfl,fun _=>rfl,fun j v h=>by cases h⟩
 |e::es,bT,i,r,h,hr=>by
  cases h with
  |cons hk hv hb t=>
   rename_i e' bT;have hs:∀b,Instr.sameNow kd k e.key=some b→e'.key=e.key:=by
    intro b hs;have:scalar e.key=true:=by
     unfold Instr.sameNow at hs;split at hs
     ·rename_i h2;rw[h2];rfl
     ·rename_i h2;rw[h2];rfl
     ·rename_i h2;rw[h2];rfl
     ·cases hs
    exact hk.ar this
   simp only[Instr.findNow]at hr ⊢;split at hr
   ·rename_i hq;rw[hs _ hq,hq];simp only[Option.some.injEq]at hr;subst hr;exact⟨_,rfl,(fun h=>by cases h),fun j v h=>(by cases h;exact⟨_,rfl,hv⟩)⟩
   ·rename_i hq;rw[hs _ hq,hq];exact jx t hr
   ·cases hr
theorem run_loadCells {P:Program} {w:World} {a:Addr}:∀(n i:Nat) (acc:Array Value) (l:List Value),l.length=n→(∀(k:Nat) v,l[k]? =some v→w.cell? (a.add (i+k))=some v)→(loadCellsFrom a i n acc).run P w= .ok (acc++l.toArray) w
 |0,i,acc,l,h,_=>by
  have:l=[]:=List.eq_nil_of_length_eq_zero h;subst this;simp[loadCellsFrom]
 |n+1,i,acc,[],h,_=>by simp at h
 |n+1,i,acc,v::l,h,hc=>by
  have h0:=hc 0 v rfl;have ih:=run_loadCells (P:=P) n (i+1) (acc.push v) l (by simpa using h) (fun k u hu=>by have:=hc (k+1) u (by simpa using hu);rw[←this];congr 2;omega);simp only[Nat.add_zero]at h0;simp only[loadCellsFrom,Sem.run_bind,run_load,h0,Result.andThen_ok,ih];simp
section
variable {P:Program} {E:Env} {μ:bn} {f:AF} {a:Act} {base B:Nat} {h:ab} {w:World}
theorem bf.zi (H:bf E base B μ h w) {b o n:Nat} {m:MT} (hb:μ b=some m) {l:List Value} (hr:M.ae h b o n=some l):
 ∃l',ax μ l l'∧∀(i:Nat) v,l'[i]? =some v→w.cell? ⟨m.r,m.s+o+i,none⟩=some v:=by
 obtain⟨h1,h2⟩:=H.ae hb hr;have key:∀(l:List Value) (k:Nat),(∀(i:Nat) v,l[i]? =some v→∃v',w.cell? ⟨m.r,m.s+o+k+i,none⟩=some v'∧aq μ v v')→∃l',ax μ l l'∧∀(i:Nat) v,l'[i]? =some v→w.cell? ⟨m.r,m.s+o+k+i,none⟩=some v:=by
  intro l
  induction l with
  |nil=>intro k _;exact⟨[],.nil,fun i v h=>by simp at h⟩
  |cons v l ih=>
   intro k hl;obtain⟨v',q1,q2⟩:=hl 0 v rfl;obtain⟨l',r1,r2⟩:=ih (k+1) fun i u hu=>by
    obtain⟨u',k1,k2⟩:=hl (i+1) u (by simpa using hu);exact⟨u',by rw[←k1];congr 2;omega,k2⟩
   refine⟨v'::l',.cons q2 r1,fun i u hu=>?_⟩;cases i with
   |zero=>simp at hu;subst hu;simpa using q1
   |succ i=>
    simp at hu;rw[←r2 i u hu];congr 2;omega
 obtain⟨l',r1,r2⟩:=key l 0 (by simpa using h2);exact⟨l',r1,by simpa using r2⟩
theorem oH (hE:bw P E) {t:TypeId} {agg:Bool} {n:Nat} (hs:eN E t=some (agg,n)) {r o:Nat} {l':List Value} (hl:l'.length=n) (hc:∀(i:Nat) v,l'[i]? =some v→w.cell? ⟨r,o+i,none⟩=some v) {v':Value}
 (hv:cH agg l'=some v'):(loadVar t ⟨r,o,none⟩).run P w= .ok v' w:=by
 obtain⟨d,k1,k2,k3,k4⟩:=ur hs;unfold loadVar;simp only[Sem.run_bind,G7 hE k1 w,Result.andThen_ok,k2];cases agg with
 |true=>
  simp only[cH,Option.some.injEq]at hv;subst hv;simp only[if_true,Sem.run_bind,fL hE (k3 rfl) w,Result.andThen_ok,loadCells];rw[run_loadCells n 0 #[] l' hl (fun k v hv=>by rw[gC];simpa using hc k v hv)];simp
 |false=>
  have:=k4 rfl;subst this
  match l',hl with
  |[u],_=>
   simp only[cH,Option.some.injEq]at hv;subst hv;have:=hc 0 u rfl;simp only[Nat.add_zero]at this;simp[this]
theorem tf (hE:bw P E) (hf:cU μ f a.tmps) (H:bf E base B μ h w) {o:Oper} {q:RQ} {v:Value} (hq:bG E f o=some q) (hv:q.run h=some v):
 ∃v',aq μ v v'∧(execOp a.eval o).run P w= .ok (.value v') w:=by
 have hg:gk E μ:=H.dv;obtain⟨dst,op,type,pos,after,guard⟩:=o;cases op
 case load t x=>
  simp only[bG,Option.bind_eq_some_iff,Option.some.injEq]at hq;obtain⟨u,h1,p,h2,⟨agg,n⟩,h3,rfl⟩:=hq;have e:=kx h2;subst e;obtain⟨m,hb,ex⟩:=(a8 hg hf h1).jZ;simp only[RQ.run,Option.bind_eq_some_iff]at hv;obtain⟨l,h4,h5⟩:=hv;obtain⟨l',r1,r2⟩:=H.zi hb h4;obtain⟨v',q1,q2⟩:=ji h5 r1;refine⟨v',q2,?_⟩;have hl:l'.length=n:=by rw[←r1.length];exact(H.ae hb h4).1
  simp only[execOp,Instr.loadAt,Sem.run_bind,ex,Instr.sureAddr,Sem.run_pure,Result.andThen_ok];rw[oH hE h3 hl r2 q1];rfl
 case lookup t x ix ok=>
  simp only[bG,Option.bind_eq_some_iff]at hq;obtain⟨d,hd,mv,h1,k,h2,h3⟩:=hq;split at h3
  ·rename_i kt elem r;simp only[Option.bind_eq_some_iff,aj,Bool.and_eq_true,Option.some.injEq]at h3;obtain⟨kd,ir,z,hz,⟨⟨s1,s2⟩,s3⟩,rfl⟩:=h3;obtain⟨m,hb,ex⟩:=(a8 hg hf h1).k9;have ek:=(a8 hg hf h2).ar s2;simp only[RQ.run,Option.bind_eq_some_iff]at hv;obtain⟨⟨es,clock⟩,h4,h5⟩:=hv;obtain⟨o1,o2,k1,k2,k3⟩:=H.obj r m hb;have hm:h.get r=some (.map es clock):=by
    unfold eO at h4;split at h4<;>simp at h4;obtain⟨rfl,rfl⟩:=h4;assumption
   rw[hm]at k1;cases k1;cases k3 with
   |map hs=>
    rename_i bT;have pz:=run_getObj_map (P:=P) k2 (fun _ _ _=>by simp);simp only[jN,Option.bind_eq_some_iff,Option.some.injEq]at h5;obtain⟨fr,h6,h7⟩:=h5;obtain⟨KM,q1,q2,q3⟩:=jx hs h6;have qB:=aq.b9 μ s3;have Cz:(Instr.findKey kt k bT.toList).run P w= .ok KM w:=by
     simp only[Instr.findKey,Sem.run_bind,aC hE ir w,Result.andThen_ok,q1,Sem.run_pure]
    have sX:=ky (P:=P) hE ir s1 bT.isEmpty 9999 k w;have fin:∀(u u':Value) (b:Bool),aq μ u u'→aq μ (bif ok then .tuple #[u,.bool b]else u) (if ok=true then .tuple #[u',.bool b]else u'):=by
     intro u u' b hu;cases ok with
     |true=>simp only[cond_true,if_true];exact .dC (by simpa using ax.cons hu (.cons (.bool μ b) .nil))
     |false=>simpa using hu
    cases fr with
    |none=>
     have e:=q2 rfl;subst e;simp only at h7;subst h7;refine⟨_,fin z z false qB,?_⟩;simp only[execOp,Instr.lookup,Sem.run_bind,aC hE hd w,Result.andThen_ok,ex,ek,pz,Sem.run_pure,sX,Cz,kq hE hz w]
    |some jv=>
     obtain⟨v',e,hr⟩:=q3 jv.1 jv.2 rfl;subst e;simp only at h7;subst h7;refine⟨_,fin jv.2 v' true hr,?_⟩;simp only[execOp,Instr.lookup,Sem.run_bind,aC hE hd w,Result.andThen_ok,ex,ek,pz,Sem.run_pure,sX,Cz]
  ·cases h3
 case call c=>
  simp only[bG]at hq;split at hq
  ·rename_i t ts AT Td;simp only[Option.bind_eq_some_iff]at hq;obtain⟨d,hd,args,h1,h2⟩:=hq;split at h2
   ·rename_i kt et r rest;simp only[Option.some.injEq]at h2;subst h2;have hr:=j6 hg hf h1;cases ku:c.args.toList.map a.eval with
    |nil=>rw[ku]at hr;cases hr
    |cons u us=>
     rw[ku]at hr;cases hr with
     |cons hx _=>
      obtain⟨m,hb,rfl⟩:=hx.k9;simp only[RQ.run,Option.bind_eq_some_iff,Option.some.injEq]at hv;obtain⟨⟨es,clock⟩,h4,rfl⟩:=hv;obtain⟨o1,o2,k1,k2,k3⟩:=H.obj r m hb;have hm:h.get r=some (.map es clock):=by
       unfold eO at h4;split at h4<;>simp at h4;obtain⟨rfl,rfl⟩:=h4;assumption
      rw[hm]at k1;cases k1;cases k3 with
      |map hs=>
       rename_i bT;have pz:=run_getObj_map (P:=P) k2 (fun _ _ _=>by simp);have e0:(c.args.map a.eval)[0]? =some (.map (some m.r)):=by
        have:(c.args.map a.eval).toList= .map (some m.r)::us:=by simpa using ku
        rw[←Array.getElem?_toList,this];rfl
       have e1:c.argTypes[0]? =some t:=by rw[←Array.getElem?_toList,Td];rfl
       refine⟨goInt bT.size,?_,?_⟩
       ·have:=hs.length;simp only[Array.length_toList]at this;rw[this];exact .int μ _ _
       ·simp only[execOp,resolve,AT,Sem.run_bind,Sem.run_pure,Result.andThen_ok,invoke,builtin,Builtin.len_,e0,e1,aC hE hd w,pz]
   ·cases h2
  ·cases hq
 all_goals(simp only[bG]at hq;cases hq)
end
theorem AU {v:Value} (h:fq v=true):v.oneCell'=true:=by cases v<;>simp[fq]at h<;>rfl
theorem kz {P:Program} {r off:Nat} {e:TypeId} {fr:Nat×Nat}:∀(vs:List Value) (i:Nat) (w:World) (c:Array Value),oA fr c.size→w.heap[r]? =some (.cells c e fr)→vs.all fq=true→off+i+vs.length≤c.size→
 ∃w' c',(storeCells ⟨r,off,none⟩ vs i).run P w= .ok () w'∧AK w r (.cells c' e fr) w'∧c'.size=c.size∧∀k,c'[k]? =if off+i≤k∧k<off+i+vs.length then vs[k - (off+i)]? else c[k]?
 |[],i,w,c,_,hw,_,_=>by
  refine⟨w,c,by simp[storeCells],⟨rfl,rfl,rfl,rfl,fun k=>?_⟩,rfl,fun k=>?_⟩
  ·by_cases e:k=r
   ·subst e;rw[if_pos rfl,hw]
   ·rw[if_neg e]
  ·rw[if_neg (by simp)]
 |v::vs,i,w,c,VO,hw,kA,hb=>by
  simp only[List.all_cons,Bool.and_eq_true]at kA;simp only[List.length_cons]at hb;have Lf:w.cell? ⟨r,off+i,none⟩=some (c[off+i]' om):=by
   simp only[World.cell?,hw];simp
  have CA:w.frozen? ⟨r,off+i,none⟩=false:=by
   have:=VO.at (off+i) om;simp only[World.frozen?,hw];simpa using this
  let w1:=w.setCell ⟨r,off+i,none⟩ v
  have eH:∀k,w1.heap[k]? =if k=r then some (.cells (c.setIfInBounds (off+i) v) e fr)else w.heap[k]? :=by
   intro k;simp only[w1,World.setCell,Array.getElem?_modify];by_cases ek:k=r
   ·subst ek;rw[if_pos rfl,if_pos rfl,hw];simp
   ·rw[if_neg (fun h=>ek h.symm),if_neg ek]
  obtain⟨w',c',q1,q2,q3,q4⟩:=kz (P:=P) (off:=off) vs (i+1) w1 (c.setIfInBounds (off+i) v) (by simpa using VO) (by rw[eH,if_pos rfl]) kA.2 (by simp;omega);refine⟨w',c',?_,⟨q2.tape,q2.os,q2.output,by rw[q2.size];simp[w1,World.setCell],fun k=>?_⟩,by rw[q3];simp,fun k=>?_⟩
  ·simp only[storeCells,Sem.run_bind,gC,run_store P w _ v .plain (AU kA.1),Lf,CA];simp only[Bool.false_eq_true,if_false,Result.andThen_ok];exact q1
  ·rw[q2.get];by_cases ek:k=r
   ·rw[if_pos ek,if_pos ek]
   ·rw[if_neg ek,if_neg ek,eH,if_neg ek]
  ·rw[q4 k];by_cases h1:off+(i+1)≤k∧k<off+(i+1)+vs.length
   ·rw[if_pos h1,if_pos (by simp;omega)];have:k - (off+i)=(k - (off+(i+1)))+1:=by omega
    rw[this,List.getElem?_cons_succ]
   ·rw[if_neg h1];by_cases h2:k=off+i
    ·subst h2;rw[if_pos (by simp),Array.getElem?_setIfInBounds_self_of_lt (show off+i<c.size by omega)];simp
    ·rw[if_neg (by simp;omega),Array.getElem?_setIfInBounds_ne om]
theorem zj (n:Nat):∀(rounds c:Nat),256≤c→Builtin.growBy n rounds c≤c*2 ^ rounds
 |0,c,_=>by simp[Builtin.growBy]
 |k+1,c,h=>by
  simp only[Builtin.growBy];split
  ·exact Nat.le_mul_of_pos_right _ (Nat.pow_pos om)
  ·have h1:c+(c+768) / 4≤c*2:=by omega
   have:=zj n k (c+(c+768) / 4) om
   calc _≤(c+(c+768) / 4)*2 ^ k:=this
    _≤(c*2)*2 ^ k:=Nat.mul_le_mul_right _ h1
    _=c*2 ^ (k+1):=by rw[Nat.pow_succ,Nat.mul_assoc,Nat.mul_comm 2]
theorem nextslicecap_le {n c:Nat} (h:c<n):Builtin.nextslicecap n c≤16*n:=by
 unfold Builtin.nextslicecap;split
 ·omega
 ·split
  ·omega
  ·have:=zj n 4 c om;omega
section
variable {P:Program} {E:Env} {μ:bn} {f:AF} {a:Act} {base B:Nat} {h:ab} {w:World}
theorem CB {x x':Value} {n:Nat} (h:l5 x=some n) (hr:aq μ x x'):fu P (Builtin.lenOf x') n:=by
 unfold l5 at h;split at h
 ·simp only[Option.some.injEq]at h;subst h;intro w;cases hr<;>rfl
 ·simp only[Option.some.injEq]at h;subst h;cases hr;intro w;rfl
 ·cases h
theorem m4 (H:bf E base B μ h w) {size n L:Nat} {x x':Value} {l:List Value} (h1:fh h size n x=some l) (hr:aq μ x x') (hL:l5 x=some L) (hn:n≤L):
 ∃l',ax μ l l'∧∀d,(Builtin.firstCells size n x').run P {w with drawn:=d}= .ok l'.toArray {w with drawn:=d}:=by
 unfold fh at h1;split at h1
 ·rename_i b o z len cap;cases hr with
  |lit hh=>simp[ay]at hh
  |slice hb k1 k2 k3 k4=>
   rename_i cap' m;obtain⟨l',r1,r2⟩:=H.zi hb h1;refine⟨l',r1,fun d=>?_⟩;simp only[Builtin.firstCells,loadCells];have hl:l'.length=n*size:=by rw[←r1.length];exact(H.ae hb h1).1
   rw[run_loadCells (n*size) 0 #[] l' hl (fun k v hv=>by rw[gC];have:=r2 k v hv;simpa[World.cell?]using this)];simp
  |cS=>
   simp only[l5,Option.some.injEq]at hL;have mg:n=0:=by omega
   subst mg;unfold M.ae at h1;simp only[Option.bind_eq_some_iff,aU]at h1;obtain⟨cs,_,_,rfl⟩:=h1;refine⟨[],by simpa using ax.nil,fun d=>?_⟩;simp[Builtin.firstCells,loadCells,loadCellsFrom]
 ·rename_i len cap;simp only[Option.some.injEq]at h1;subst h1;cases hr with
  |lit hh=>exact⟨[],.nil,fun d=>by simp[Builtin.firstCells]⟩
 ·rename_i s;simp only[Option.some.injEq]at h1;subst h1;cases hr.ar rfl;refine⟨_,ax.b9 μ (by
   rw[List.all_eq_true];intro v hv;obtain⟨u,_,rfl⟩:=List.mem_map.1 hv;rfl),fun d=>?_⟩
  simp only[Builtin.firstCells,Sem.run_pure]
  congr 1
  apply Array.ext';simp[List.extract_eq_take_drop]
 ·cases h1
theorem tj (H:bf E base B μ h w) {b o:Nat} {m:MT} (hb:μ b=some m) {cs cs' vs mZ:List Value} {h':ab} (fW:h.rd b=some cs) (fH:cZ cs o vs=some cs') (fI:h.wr base b cs'=some h')
 (hr:ax μ vs mZ) (kA:vs.all fq=true):∃w',(storeCells ⟨m.r,m.s+o,none⟩ mZ).run P w= .ok () w'∧Step E base B μ h w μ h' w':=by
 obtain⟨c,e,fr,k1,k2,k3,k4,k5⟩:=H.read hb fW;obtain⟨f,aO,br,_,_,_⟩:=G5 fI;have VO:oA fr c.size:=by rw[k2];exact k4 br
 obtain⟨s1,s2,s3⟩:=dq fH;have hl:=hr.length;have CC:mZ.all fq=true:=by
  rw[List.all_eq_true]at kA ⊢;intro v' ze;obtain⟨i,hi,rfl⟩:=List.mem_iff_getElem.1 ze;have h0:vs[i]? =some (vs[i]' om):=by simp
  obtain⟨u,q1,q2⟩:=hr.get h0;have:mZ[i]? =some mZ[i]:=by simp[hi]
  rw[this]at q1;cases q1;exact q2.fq (kA _ (List.getElem_mem _))
 obtain⟨w',c',q1,q2,q3,q4⟩:=kz (P:=P) mZ 0 w c VO k1 CC (off:=m.s+o) om;obtain⟨r,_,_,qa⟩:=rd_some fW;refine⟨w',q1,Step.wr H hb qa s2 fI k1 q3 q2 fun i v hv=>?_⟩;rw[s3 i]at hv;rw[q4 (m.s+i)];by_cases hi:o≤i∧i<o+vs.length
 ·rw[if_pos hi]at hv;rw[if_pos om];obtain⟨v',z1,z2⟩:=hr.get hv;exact⟨v',by rw[←z1];congr 1;omega,z2⟩
 ·rw[if_neg hi]at hv;rw[if_neg om];exact k5 i v hv
end
section
variable {P:Program} {E:Env} {μ:bn} {f:AF} {a:Act} {base B:Nat} {h:ab} {w:World}
def yK (b:Option Addr) (k:Nat) (new:List Value):Sem Unit:=match b with|some a=>storeCells (a.add k) new|none=>pure ()
theorem oI (z:Array Value) (n:Nat):(Builtin.zeroCells z n).size=n*z.size:=by simp[Builtin.zeroCells]
theorem m5 (hE:bw P E) {st xt ty elem:TypeId} {xd:TypeDesc} {size bytes n len cap:Nat} {z0:Value} {base':Option Addr} {x':Value} {old new:List Value}
 (ct:E.desc st=some (.slice elem)) (Pk:E.desc xt=some xd) (G8:kj xd=false) (hs:E.size elem=some size) (EH:E.bytes elem=some bytes) (hz:E.zero elem=some z0) (jj:z0.cells.size=size)
 (Pl:fu P (Builtin.lenOf x') n)
 (kT:∀d,(Builtin.firstCells size n x').run P {w with drawn:=d}= .ok new.toArray {w with drawn:=d}):
 (len+n≤cap→∀w',(yK base' (len*size) new).run P w= .ok () w'→(Builtin.append_ #[st,xt] ty #[.slice base' len cap,x']).run P w= .ok (.slice base' (len+n) cap) w')∧
 (cap<len+n→(len+n+1)*(bytes+1)≤1099511627776→(∀d,(Builtin.firstCells size len (.slice base' len cap)).run P {w with drawn:=d}= .ok old.toArray {w with drawn:=d})→∃dx rest,len+n≤dx∧rest.size=(dx - (len+n))*size∧
  (Builtin.append_ #[st,xt] ty #[.slice base' len cap,x']).run P w= .ok (.slice (some ⟨w.heap.size,0,none⟩) (len+n) dx) {w with heap:=w.heap.push (.cells (old.toArray++new.toArray++rest) elem (0,0)),drawn:=w.drawn+1}):=by
 obtain⟨ti,VM,OZ⟩:=AN hE EH;have hw:({w with drawn:=w.drawn}:World)=w:=rfl;constructor
 ·intro m6 w' Lg;unfold Builtin.append_;simp only[List.getElem?_toArray,List.getElem?_cons_zero,List.getElem?_cons_succ,Sem.run_bind,aC hE ct w,aC hE Pk w,Result.andThen_ok,fL hE hs w,Sem.run_pure];split
  ·simp[kj]at G8
  simp only[Bool.false_eq_true,if_false,Sem.run_bind,Pl w,Result.andThen_ok];rw[if_pos m6];have:=kT w.drawn;simp only[Bool.not_false,if_true,Sem.run_bind];rw[show(Builtin.firstCells size n x').run P w= .ok new.toArray w from this];cases base' with
  |none=>
   simp only[yK,Sem.run_pure]at Lg;cases Lg;simp
  |some a=>
   simp only[yK]at Lg;simp[Lg]
 ·intro Wy dr hold;have Pm:len+n+1≤1099511627776:=Nat.le_trans (Nat.le_mul_of_pos_right _ om) dr;have Te:¬(((len+n:Nat):Int)>IntKind.i64.max):=by
   have e:IntKind.i64.max=9223372036854775807:=by decide
   rw[e];omega
  have gD:¬(Builtin.nextslicecap (len+n) cap*ti.bytes>2 ^ 48):=by
   have h1:=nextslicecap_le Wy;have h2:Builtin.nextslicecap (len+n) cap*ti.bytes≤16*(len+n)*bytes:=by rw[VM];exact Nat.mul_le_mul_right _ h1
   have h3:16*(len+n)*bytes≤16*((len+n+1)*(bytes+1)):=by
    rw[Nat.mul_assoc];exact Nat.mul_le_mul_left _ (Nat.mul_le_mul om om)
   have e:(2:Nat) ^ 48=281474976710656:=by decide
   rw[e];omega
  let nc:=(Question.appendCap (len+n) cap elem).cut (w.tape w.drawn (Question.appendCap (len+n) cap elem))
  refine⟨nc,Builtin.zeroCells z0.cells (nc - (len+n)),?_,by rw[oI,jj],?_⟩
  ·simp only[nc,Question.cut];omega
  ·unfold Builtin.append_;simp only[List.getElem?_toArray,List.getElem?_cons_zero,List.getElem?_cons_succ,Sem.run_bind,aC hE ct w,aC hE Pk w,Result.andThen_ok,fL hE hs w,Sem.run_pure];split
   ·simp[kj]at G8
   simp only[Bool.false_eq_true,if_false,Sem.run_bind,Pl w,Result.andThen_ok];rw[if_neg om];simp only[Sem.run_bind,OZ w,Result.andThen_ok];rw[if_neg (fun hh=>Te hh.1)];simp only[Sem.run_bind,OZ w,Result.andThen_ok];rw[if_neg gD];have ho:=hold (w.drawn+1);have hn:=kT (w.drawn+1);simp only[Sem.run_bind,run_choose,Question.forced,Bool.false_eq_true,if_false,Result.andThen_ok,OZ _,run_askRoom,ho,hn,Bool.not_false,if_true,kq hE hz _];rfl
end
section
variable {P:Program} {E:Env} {μ:bn} {f:AF} {a:Act} {base B:Nat} {h:ab} {w:World}
def jP (P:Program) (E:Env) (base B:Nat) (μ:bn) (h:ab) (w:World) (s:Sem Value) (v:Value) (h':ab):Prop:=
 ∃aS v' w',s.run P w= .ok v' w'∧aq aS v v'∧Step E base B μ h w aS h' w'
theorem tt (H:bf E base B μ h w) {cs:List Value} {cs':List Value} (hr:ax μ cs cs') {rest:Array Value} {elem:TypeId} {size len dx:Nat} (hl:len≤dx) (hlen:cs.length=len*size) (Ct:rest.size=(dx - len)*size) (d:Nat):
 ∃aS,aq aS (fresh h cs size len).1 (.slice (some ⟨w.heap.size,0,none⟩) len dx)∧
  Step E base B μ h w aS (fresh h cs size len).2 {w with heap:=w.heap.push (.cells (cs'.toArray++rest) elem (0,0)),drawn:=d}:=by
 have hs:(cs'.toArray++rest).size=dx*size:=by
  have:=hr.length;simp only[Array.size_append,List.size_toArray,Ct,←this,hlen];rw[←Nat.add_mul];congr 1;omega
 have hd:=Step.drawn H d;have eC:=Cs.mk' {w with drawn:=d} (.cells (cs'.toArray++rest) elem (0,0));have st:=Step.alloc hd.rel eC (dx*size) (o:=.cells cs h.size h.size 0) (fun cs f cO aO hh=>by cases hh;exact⟨rfl,rfl⟩) (by
  have:=me (base:=base) (b:=h.size) (r:=w.heap.size) hr elem (kl μ h.size ⟨w.heap.size,0,dx*size⟩) (h.push (.cells cs h.size h.size 0)) (gh H.fresh) h.size h.size 0 rest (cs'.toArray++rest) (by simp);rw[hs]at this;exact this)
 refine⟨_,?_,hd.trans st⟩;have:=aq.slice (o:=0) (z:=size) (len:=len) (cap:=len+1) (cap':=dx) (bO μ h.size ⟨w.heap.size,0,dx*size⟩) om hl (fun h=>by omega) (by simp only;omega);simpa[fresh]using this
theorem yL {b o:Nat} {l:List Value} (hr:M.ae h b o 0=some l):l=[]:=by
 unfold M.ae at hr;simp only[Option.bind_eq_some_iff,aU]at hr;obtain⟨cs,_,_,rfl⟩:=hr;simp
set_option maxHeartbeats 1000000 in
set_option maxHeartbeats 1000000 in
theorem E2 (hE:bw P E) (H:bf E base B μ h w) {st xt ty:TypeId} {s x s' x' v:Value} {h':ab} (ha:bD E base h st xt s x=some (v,h')) (hs:aq μ s s') (hx:aq μ x x'):
 jP P E base B μ h w (Builtin.append_ #[st,xt] ty #[s',x']) v h':=by
 unfold bD at ha;simp only[Option.bind_eq_some_iff]at ha;obtain⟨sd,ct,xd,Pk,ha⟩:=ha;split at ha
 ·rename_i elem;simp only[Option.bind_eq_some_iff,aj,Bool.and_eq_true,Bool.not_eq_true',beq_iff]at ha;obtain⟨size,fG,bytes,EH,z0,hz,n,hn,⟨G8,jj⟩,ha⟩:=ha;have Pl:=CB (P:=P) hn hx;have hxz:∀d,(Builtin.firstCells size 0 x').run P {w with drawn:=d}= .ok ([]:List Value).toArray {w with drawn:=d}:=by
   intro d;unfold l5 at hn;split at hn
   ·cases hx with
    |lit hh=>
     unfold ay at hh;split at hh<;>simp_all[Builtin.firstCells]
    |slice=>simp[Builtin.firstCells,loadCells,loadCellsFrom]
    |cS=>simp[Builtin.firstCells,loadCells,loadCellsFrom]
   ·cases hx with
    |lit hh=>simp[Builtin.firstCells]
   ·cases hn
  split at ha
  ·-- a nil slice
   have es:s'= .slice none 0 0:=by cases hs;rfl
   subst es;have rap:=fun new kT=>m5 (w:=w) (ty:=ty) (base':=none) (cap:=0) (len:=0) (old:=[]) (new:=new) hE ct Pk G8 fG EH hz jj Pl kT;rw[bZ]at ha;split at ha
   ·rename_i h0;rw[beq_iff]at h0;subst h0;simp only[Option.some.injEq,Prod.mk.injEq]at ha;obtain⟨rfl,rfl⟩:=ha;exact⟨μ,_,w,(rap [] hxz).1 (Nat.le_refl _) w rfl,.lit rfl,.refl H⟩
   ·rename_i h0;rw[beq_iff]at h0;simp only[aj,aG,beq_iff,Option.bind_eq_some_iff,Option.some.injEq]at ha;obtain⟨dr,new,kT,hl,ha⟩:=ha;obtain⟨u6,r1,r2⟩:=m4 (P:=P) H kT hx hn (Nat.le_refl _);obtain⟨dx,rest,k1,k2,k3⟩:=(rap u6 r2).2 om (by simpa using dr) (fun d=>by simp[Builtin.firstCells]);obtain⟨aS,q1,q2⟩:=tt (elem:=elem) H r1 (rest:=rest) (by simpa using k1) hl (by simpa using k2) (w.drawn+1);simp only[Nat.zero_add]at k3 ha;rw[ha]at q1 q2;refine⟨aS,_,_,k3,q1,?_⟩;simpa using q2
  ·rename_i b o z len cap;rw[bZ]at ha;split at ha
   ·-- nothing is appended
    rename_i h0;rw[beq_iff]at h0;subst h0;simp only[Option.some.injEq,Prod.mk.injEq]at ha;obtain⟨rfl,rfl⟩:=ha;have fin:∀(a':Addr) (cap':Nat),s'= .slice (some a') len cap'→len≤cap'→jP P E base B μ h w (Builtin.append_ #[st,xt] ty #[s',x']) (.slice (some ⟨b,o,some z⟩) len cap) h:=by
     intro a' cap' e IL;subst e;have ra:=(m5 (w:=w) (ty:=ty) (base':=some a') (cap:=cap') (len:=len) (old:=[]) hE ct Pk G8 fG EH hz jj Pl hxz).1 om w (by simp[yK,storeCells]);exact⟨μ,_,w,ra,hs,.refl H⟩
    generalize hv:Value.slice (some ⟨b,o,some z⟩) len cap=v at hs;cases hs with
    |slice hb k1 k2 k3 k4=>cases hv;exact fin _ _ rfl k2
    |cS=>cases hv;exact fin _ _ rfl (Nat.le_refl _)
    |_=>cases hv<;>simp[ay]at*
   ·rename_i h0;rw[beq_iff]at h0;simp only[aj,Bool.and_eq_true,aG,beq_iff,Option.bind_eq_some_iff]at ha;obtain⟨⟨hzz,dr⟩,old,hold,new,kT,hl,ha⟩:=ha;subst hzz;obtain⟨u6,r1,r2⟩:=m4 (P:=P) H kT hx hn (Nat.le_refl _)
    -- the elder cells
    have Wz:∃yM,ax μ old yM∧(∀d,(Builtin.firstCells z len s').run P {w with drawn:=d}= .ok yM.toArray {w with drawn:=d}):=
     m4 (P:=P) H (x:=.slice (some ⟨b,o,some z⟩) len cap) (x':=s') hold hs rfl (Nat.le_refl _)
    obtain⟨yM,o1,o2⟩:=Wz;have WA:old.length=len*z:=by
     unfold M.ae at hold;simp only[Option.bind_eq_some_iff,aU]at hold;obtain⟨cs,_,h3,rfl⟩:=hold;simp at h3 ⊢;omega
    have Lh:ax μ (old++new) (yM++u6):=o1.append r1;have G9:(old++new).length=(len+n)*z:=by rw[List.length_append,WA,hl,Nat.add_mul]
    have RA:∀(a':Addr) (cap':Nat),s'= .slice (some a') len cap'→cap'<len+n→∃dx rest,len+n≤dx∧rest.size=(dx - (len+n))*z∧
     (Builtin.append_ #[st,xt] ty #[s',x']).run P w= .ok (.slice (some ⟨w.heap.size,0,none⟩) (len+n) dx) {w with heap:=w.heap.push (.cells ((yM++u6).toArray++rest) elem (0,0)),drawn:=w.drawn+1}:=by
     intro a' cap' e hc;subst e;obtain⟨dx,rest,q1,q2,q3⟩:=(m5 (w:=w) (ty:=ty) (base':=some a') (cap:=cap') (len:=len) (old:=yM) hE ct Pk G8 fG EH hz jj Pl r2).2 hc dr o2;refine⟨dx,rest,q1,q2,?_⟩;rw[q3];simp
    rw[bZ]at ha;split at ha
    ·-- no room
     rename_i bU;rw[beq_iff]at bU;subst bU;simp only[Option.some.injEq]at ha;have fin:∀(a':Addr) (cap':Nat),s'= .slice (some a') cap cap'→cap'<cap+n→jP P E base B μ h w (Builtin.append_ #[st,xt] ty #[s',x']) v h':=by
      intro a' cap' e hc;obtain⟨dx,rest,q1,q2,q3⟩:=RA a' cap' e hc;obtain⟨aS,p1,p2⟩:=tt (elem:=elem) H Lh (rest:=rest) q1 G9 q2 (w.drawn+1);rw[ha]at p1 p2;exact⟨aS,_,_,q3,p1,p2⟩
     generalize hv:Value.slice (some ⟨b,o,some z⟩) cap cap=sv at hs;cases hs with
     |slice hb k1 k2 k3 k4=>cases hv;exact fin _ _ rfl (by have:=k3 rfl;omega)
     |cS=>cases hv;exact fin _ _ rfl om
     |_=>cases hv<;>simp[ay]at*
    ·-- the last block of a family goes on
     rename_i bU;rw[beq_iff]at bU;simp only[Option.bind_eq_some_iff,aj,Bool.and_eq_true,aG,beq_iff,Option.some.injEq,Prod.mk.injEq]at ha;obtain⟨cs,qa,⟨f,cO,aO⟩,l9,⟨⟨dS,WB⟩,kA⟩,rfl,rfl⟩:=ha;simp only at dS WB;subst WB;obtain⟨c6,EI⟩:∃t,t=(bif Nat.beq (o+len*z) cs.length then aO else h.size):=⟨_,rfl⟩;simp only
     rw[←EI];have AL:∀x,x<h.size→c6≤x→aO≤x:=by
      intro x hx h7;cases KK:Nat.beq (o+len*z) cs.length<;>rw[KK]at EI<;>simp only[cond_true,cond_false]at EI<;>omega
     have RB:c6<h.size→o+len*z=cs.length:=by
      intro h7;cases KK:Nat.beq (o+len*z) cs.length<;>rw[KK]at EI<;>simp only[cond_true,cond_false]at EI
      ·omega
      ·exact beq_iff.1 KK
     have VP:∀mt:MT,mt.s+0+(len+n)*z≤mt.n→∀Pn,len+n≤Pn→mt.s+0+Pn*z≤mt.n→
      aq (kl μ h.size mt) (.slice (some ⟨h.size,0,some z⟩) (len+n) (len+n+1)) (.slice (some ⟨mt.r,mt.s+0,none⟩) (len+n) Pn):=by
      intro mt _ Pn hc m6;exact .slice (bO μ h.size mt) om hc (fun h=>by omega) m6
     have Ha:∀(a':Addr) (cap':Nat) (m:MT),μ cO=some m→s'= .slice (some a') len cap'→cap'<len+n→jP P E base B μ h w (Builtin.append_ #[st,xt] ty #[s',x']) (.slice (some ⟨h.size,0,some z⟩) (len+n) (len+n+1)) ((h.bx f h.size c6).push (.cells (old++new) f 0 0)):=by
      intro a' cap' m hb e hc;obtain⟨dx,rest,q1,q2,q3⟩:=RA a' cap' e hc;have ZW:((yM++u6).toArray++rest).size=dx*z:=by
       have:=Lh.length;simp only[Array.size_append,List.size_toArray,q2,←this,G9];rw[←Nat.add_mul];congr 1;omega
      let mt:MT:=⟨w.heap.size,0,dx*z⟩
      have hle:dx*z≥(len+n)*z:=Nat.mul_le_mul_right _ q1
      have st:=Step.ext (w':={w with heap:=w.heap.push (.cells ((yM++u6).toArray++rest) elem (0,0)),drawn:=w.drawn+1}) H c6 AL hb l9 dS (cs:=cs) (new:=old++new) mt (by simp) rfl rfl rfl
       ⟨(yM++u6).toArray++rest,elem,(0,0),by simp[mt],Rt _,ZW,by simp only[mt];omega,fun i v hv=>by
        obtain⟨v',z1,z2⟩:=Lh.get hv;refine⟨v',?_,z2⟩;have hi:=(List.getElem?_eq_some_iff.1 z1).1;simp only[mt,Nat.zero_add];rw[←Array.getElem?_toList,Array.toList_append,List.getElem?_append_left (by simpa using hi)];exact z1⟩ qa
       (fun r hr bj=>by simp only[mt]at bj;simp only[Array.getElem?_push];rw[if_neg om]) H.low (.inl (Nat.le_refl _))
      refine⟨_,_,_,q3,?_,st⟩;have:=VP mt (by simp only[mt];omega) dx q1 (by simp only[mt];omega);simpa[mt]using this
     generalize hv:Value.slice (some ⟨cO,o,some z⟩) len cap=sv at hs;cases hs with
     |slice hb k1 k2 k3 k4=>
      rename_i b1 o1' z1 Po WC cap' m;cases hv;by_cases m6:len+n≤cap'
      ·-- in place
       obtain⟨c,e,fr,w1,w2,w3,w4,w5⟩:∃c e fr,w.heap[m.r]? =some (.cells c e fr)∧c.size=m.n∧m.s+cs.length≤m.n∧(base≤cO→oA fr m.n)∧∀(i:Nat) v,cs[i]? =some v→∃v',c[m.s+i]? =some v'∧aq μ v v':=by
        unfold M.ae at hold;simp only[Option.bind_eq_some_iff]at hold;obtain⟨cs2,fW,_⟩:=hold;obtain⟨_,_,_,h9⟩:=rd_some fW;rw[qa]at h9;cases h9;exact H.read hb fW
       have ZX:=H.dA cO m _ hb l9;simp only at ZX;have ZY:base≤cO:=by omega
       have VO:oA fr c.size:=by rw[w2];exact w4 ZY
       have CC:u6.all fq=true:=by
        rw[List.all_eq_true]at kA ⊢;intro v' ze;obtain⟨i,hi,rfl⟩:=List.mem_iff_getElem.1 ze;have adD:=r1.length;have h0:new[i]? =some (new[i]' om):=by simp
        obtain⟨u,q1,q2⟩:=r1.get h0;have:u6[i]? =some u6[i]:=by simp[hi]
        rw[this]at q1;cases q1;exact q2.fq (kA _ (List.getElem_mem _))
       have yv:u6.length=n*z:=by rw[←r1.length];exact hl
       have hmul:(len+n)*z=len*z+n*z:=Nat.add_mul _ _ _;have gU:(len+n)*z≤cap'*z:=Nat.mul_le_mul_right _ m6;obtain⟨w',c',q1,q2,q3,q4⟩:=kz (P:=P) (off:=m.s+o+len*z) u6 0 w c VO w1 CC om;have ra:=(m5 (w:=w) (ty:=ty) (base':=some ⟨m.r,m.s+o,none⟩) (cap:=cap') (len:=len) (old:=yM) hE ct Pk G8 fG EH hz jj Pl r2).1 m6 w' (by simp only[yK,gC];exact q1)
       let mt:MT:=⟨m.r,m.s+o,m.n⟩
       have WD:∀(i:Nat) v,old[i]? =some v→∃v',c[m.s+o+i]? =some v'∧aq μ v v':=by
        intro i v hv;unfold M.ae at hold;simp only[Option.bind_eq_some_iff,aU]at hold;obtain⟨cs2,fW,h3,rfl⟩:=hold;obtain⟨_,_,_,h9⟩:=rd_some fW;rw[qa]at h9;cases h9;have hi:=(List.getElem?_eq_some_iff.1 hv).1;simp at hi;rw[List.getElem?_take,if_pos om,List.getElem?_drop]at hv;obtain⟨v',z1,z2⟩:=w5 _ v hv;exact⟨v',by rw[Nat.add_assoc];exact z1,z2⟩
       have st:=Step.ext (w':=w') H c6 AL hb l9 dS (cs:=cs) (new:=old++new) mt (by rw[q2.size];exact Nat.le_refl _) q2.tape q2.os q2.output
        ⟨c',e,fr,by rw[q2.get,if_pos rfl],w4 ZY,by rw[q3,w2],by simp only[mt];omega,fun i v hv=>by
         simp only[mt];rw[q4];by_cases hi:i<old.length
         ·rw[List.getElem?_append_left hi]at hv;obtain⟨v',z1,z2⟩:=WD i v hv;refine⟨v',?_,z2⟩;rw[if_neg om];exact z1
         ·rw[List.getElem?_append_right om]at hv;have hi2:=(List.getElem?_eq_some_iff.1 hv).1;obtain⟨v',z1,z2⟩:=r1.get hv;refine⟨v',?_,z2⟩;rw[if_pos om,←z1];congr 1;omega⟩ qa
        (fun r hr bj=>by rw[q2.get,if_neg bj]) (H.own cO m hb ZY)
        (.inr ⟨rfl,rfl,fun h7=>by have:=RB h7;simp only[mt];omega,fun c2 e2 fr2 hh=>by
         rw[w1]at hh;cases hh;exact⟨c',by rw[q2.get,if_pos rfl],q3,fun h7 i hi=>by have:=RB h7;rw[q4,if_neg om]⟩⟩)
       refine⟨_,_,w',ra,?_,st⟩;have:=VP mt (by simp only[mt];omega) cap' m6 (by simp only[mt];omega);simpa[mt]using this
      ·exact Ha _ _ m hb rfl om
     |cS hb=>cases hv;obtain⟨m0,hb⟩:=hb om;exact Ha _ _ _ hb rfl om
     |_=>cases hv<;>simp[ay]at*
  ·cases ha
 ·cases ha
end
theorem AK.set (w:World) (r:Nat) (o:Obj) (hr:r<w.heap.size):AK w r o {w with heap:=w.heap.setIfInBounds r o}:=
 ⟨rfl,rfl,rfl,by simp,fun k=>by
  by_cases e:k=r
  ·subst e;rw[if_pos rfl,Array.getElem?_setIfInBounds_self_of_lt hr]
  ·rw[if_neg e,Array.getElem?_setIfInBounds_ne (fun h=>e h.symm)]⟩
theorem cd {P:Program} {w:World} {r:Nat} {o1 o:Obj} (h:w.heap[r]? =some o1) (ho:∀c e f,o1≠ .cells c e f):(setObj r o).run P w= .ok () {w with heap:=w.heap.setIfInBounds r o}:=by
 unfold setObj;simp only[Sem.run,h]
section
variable {P:Program} {E:Env} {μ:bn} {f:AF} {a:Act} {base B:Nat} {h:ab} {w:World}
theorem Lj (hE:bw P E) (H:bf E base B μ h w) {dt ty:TypeId} {d s d' s' v:Value} {h':ab} (ha:KZ E base h dt d s=some (v,h')) (hd:aq μ d d') (hs:aq μ s s') (ts:Array TypeId) (ht:ts[0]? =some dt):
 jP P E base B μ h w (Builtin.copy_ ts ty #[d',s']) v h':=by
 unfold KZ at ha;simp only[Option.bind_eq_some_iff]at ha;obtain⟨dd,O0,ha⟩:=ha;split at ha
 ·rename_i elem ad AB adF;simp only[Option.bind_eq_some_iff]at ha;obtain⟨size,fG,sl,yN,ha⟩:=ha;have Pl:=CB (P:=P) yN hs;have hd':∃VQ cap',d'= .slice VQ AB cap':=by cases hd<;>exact⟨_,_,rfl⟩
  obtain⟨VQ,cap',rfl⟩:=hd';have run:∀(cells:List Value) (w':World),(Builtin.firstCells size (Nat.min sl AB) s').run P w= .ok cells.toArray w→(yK VQ 0 cells).run P w= .ok () w'→(Builtin.copy_ ts ty #[.slice VQ AB cap',s']).run P w= .ok (goInt (Nat.min sl AB)) w':=by
   intro cells w' h1 h2;unfold Builtin.copy_;simp only[ht,List.getElem?_toArray,List.getElem?_cons_zero,List.getElem?_cons_succ,Sem.run_bind,aC hE O0 w,Result.andThen_ok,Pl w,fL hE fG w,h1];cases VQ with
   |none=>simp only[yK,Sem.run_pure]at h2;cases h2;simp
   |some aa=>
    simp only[yK]at h2;have:aa.add 0=aa:=by simp[Addr.add]
    rw[this]at h2;simp[h2]
  rw[bZ]at ha;split at ha
  ·rename_i h0;rw[beq_iff]at h0;simp only[Option.some.injEq,Prod.mk.injEq]at ha;obtain⟨rfl,rfl⟩:=ha;have fT:(Builtin.firstCells size (Nat.min sl AB) s').run P w= .ok ([]:List Value).toArray w:=by
    rw[h0];unfold l5 at yN;split at yN
    ·cases hs with
     |lit hh=>unfold ay at hh;split at hh<;>simp_all[Builtin.firstCells]
     |slice=>simp[Builtin.firstCells,loadCells,loadCellsFrom]
     |cS=>simp[Builtin.firstCells,loadCells,loadCellsFrom]
    ·cases hs with
     |lit hh=>simp[Builtin.firstCells]
    ·cases yN
   have:=run [] w fT (by cases VQ<;>simp[yK,storeCells]);rw[h0]at this;exact⟨μ,_,w,this,.int μ _ _,.refl H⟩
  ·rename_i h0;rw[beq_iff]at h0;split at ha
   ·rename_i b o z;simp only[Option.bind_eq_some_iff,aj,Option.some.injEq,Prod.mk.injEq]at ha;obtain⟨cells,hc,kA,cs,fW,cs',fH,h1,fI,rfl,rfl⟩:=ha;obtain⟨cells',r1,r2⟩:=m4 (P:=P) H hc hs yN (Nat.min_le_left _ _);cases hd with
    |slice hb k1 k2 k3 k4=>
     obtain⟨w',q1,q2⟩:=tj (P:=P) H hb fW fH fI r1 kA;exact⟨μ,_,w',run cells' w' (r2 w.drawn) (by simp only[yK,gC];exact q1),.int μ _ _,q2⟩
    |cS=>exact absurd (Nat.min_zero _) h0
    |lit hh=>simp[ay]at hh
   ·cases ha
 ·cases ha
theorem IN (hE:bw P E) (H:bf E base B μ h w) {t ty:TypeId} {x x' v:Value} {h':ab} (ha:qs E base h t x=some (v,h')) (hx:aq μ x x') (ts:Array TypeId) (ht:ts[0]? =some t) (args:Array Value) (jV:args[0]? =some x')
 (hu:∃d,E.desc t=some d):jP P E base B μ h w (Builtin.clear_ ts ty args) v h':=by
 obtain⟨d,O0⟩:=hu;unfold qs at ha;split at ha
 ·simp only[Option.some.injEq,Prod.mk.injEq]at ha;obtain⟨rfl,rfl⟩:=ha;have ex:x'= .map none:=by cases hx;rfl
  subst ex;refine⟨μ,.tuple #[],w,?_,aq.undef μ,.refl H⟩;unfold Builtin.clear_;simp only[ht,jV,Sem.run_bind,aC hE O0 w,Result.andThen_ok];rfl
 ·simp only[Option.some.injEq,Prod.mk.injEq]at ha;obtain⟨rfl,rfl⟩:=ha;have ex:∃n c,x'= .slice none n c:=by cases hx;exact⟨_,_,rfl⟩
  obtain⟨n,c,rfl⟩:=ex;refine⟨μ,.tuple #[],w,?_,aq.undef μ,.refl H⟩;unfold Builtin.clear_;simp only[ht,jV,Sem.run_bind,aC hE O0 w,Result.andThen_ok];rfl
 ·rename_i b o z n cap;have shape:∃a' cap',x'= .slice (some a') n cap':=by
   cases hx with
   |lit hh=>simp[ay]at hh
   |slice=>exact⟨_,_,rfl⟩
   |cS=>exact⟨_,_,rfl⟩
  rw[bZ]at ha;split at ha
  ·rename_i h0;rw[beq_iff]at h0;subst h0;simp only[Option.some.injEq,Prod.mk.injEq]at ha;obtain⟨rfl,rfl⟩:=ha;obtain⟨a',cap',rfl⟩:=shape;refine⟨μ,.tuple #[],w,?_,aq.undef μ,.refl H⟩;unfold Builtin.clear_;simp only[ht,jV,Sem.run_bind,aC hE O0 w,Result.andThen_ok];rfl
  ·rename_i h0;rw[beq_iff]at h0;simp only[Option.bind_eq_some_iff]at ha;obtain⟨d2,WE,ha⟩:=ha;rw[O0]at WE;cases WE;split at ha
   ·rename_i elem;simp only[Option.bind_eq_some_iff,aj,Option.some.injEq,Prod.mk.injEq]at ha;obtain⟨zv,hz,kA,cs,fW,cs',fH,h1,fI,rfl,rfl⟩:=ha;have qB:=(aq.b9 μ (hE.zero elem zv hz).2).cells;have CC:(aP zv.cells.toList n).all fq=true:=by
     have:∀k,(aP zv.cells.toList k).all fq=true:=by
      intro k
      induction k with
      |zero=>rfl
      |succ k ih=>simp only[M.aP,List.all_append,kA,ih,Bool.and_self]
     exact this n
    cases hx with
    |lit hh=>simp[ay]at hh
    |slice hb k1 k2 k3 k4=>
     rename_i cap' m;obtain⟨w',q1,q2⟩:=tj (P:=P) H hb fW fH fI (qB.aP n) CC;refine⟨μ,.tuple #[],w',?_,aq.undef μ,q2⟩;have VJ:(Builtin.zeroCells zv.cells n).toList=aP zv.cells.toList n:=by
      unfold Builtin.zeroCells;by_cases yJ:0<zv.cells.size
      ·exact rP zv.cells n yJ
      ·have e0:zv.cells.size=0:=by omega
       have e1:(aP zv.cells.toList n)=[]:=by
        apply List.eq_nil_of_length_eq_zero;rw[di];simp[e0]
       rw[e1];simp[e0]
     obtain⟨n',rfl⟩:∃n',n=n'+1:=⟨n - 1,om⟩;unfold Builtin.clear_;simp only[ht,jV,Sem.run_bind,aC hE O0 w,Result.andThen_ok,kq hE hz w,VJ,q1,Sem.run_pure]
    |cS=>exact absurd rfl h0
   ·cases ha
 ·rename_i r;simp only[aj,aG]at ha;obtain⟨br,ha⟩:=ha;split at ha
  ·rename_i es clock hg;simp only[Option.some.injEq,Prod.mk.injEq]at ha;obtain⟨rfl,rfl⟩:=ha;obtain⟨m,hb,rfl⟩:=hx.k9;obtain⟨o1,o2,k1,k2,k3⟩:=H.obj r m hb;rw[hg]at k1;cases k1;cases k3 with
   |map hs=>
    have st:=Step.put H hb br hg rfl rfl (AK.set w m.r (.map #[] clock) (H.lt hb)) (.map (by simpa using cD.nil));refine⟨μ,.tuple #[],_,?_,aq.undef μ,st⟩;unfold Builtin.clear_;simp only[ht,jV,Sem.run_bind,aC hE O0 w,Result.andThen_ok,run_getObj_map (P:=P) k2 (fun _ _ _=>by simp),cd (P:=P) k2 (fun _ _ _=>by simp),Sem.run_pure]
  ·cases ha
 ·cases ha
theorem vX {kd:TypeDesc} {k:Value}:∀{es:List MapEntry} {i j:Nat} {v:Value},Instr.findNow kd k es i=some (some (j,v))→i≤j∧j<i+es.length
 |[],i,j,v,h=>by simp[Instr.findNow]at h
 |e::es,i,j,v,h=>by
  simp only[Instr.findNow]at h;split at h
  ·simp only[Option.some.injEq,Prod.mk.injEq]at h;obtain⟨rfl,_⟩:=h;simp
  ·have:=vX h;simp;omega
  ·cases h
theorem cD.eraseIdx {l l':List MapEntry} (hs:cD μ l l'):∀i,cD μ (l.eraseIdx i) (l'.eraseIdx i):=by
 induction hs with
 |nil=>intro i;simpa using cD.nil
 |cons hk hv hb t ih=>intro i;cases i with
  |zero=>simpa using t
  |succ i=>simpa using cD.cons hk hv hb (ih i)
theorem cD.append {l l' k k':List MapEntry} (hs:cD μ l l') (hk:cD μ k k'):cD μ (l++k) (l'++k'):=by
 induction hs with
 |nil=>exact hk
 |cons a b c _ ih=>exact .cons a b c ih
theorem cD.modify {l l':List MapEntry} (hs:cD μ l l') {g g':MapEntry→MapEntry} (hg:∀e e',aq μ e.key e'.key→aq μ e.val e'.val→e.born=e'.born→aq μ (g e).key (g' e').key∧aq μ (g e).val (g' e').val∧(g e).born=(g' e').born):∀i,cD μ (l.modify i g) (l'.modify i g'):=by
 induction hs with
 |nil=>intro i;simpa using cD.nil
 |cons hk hv hb t ih=>intro i;cases i with
  |zero=>obtain⟨a,b,c⟩:=hg _ _ hk hv hb;simpa using cD.cons a b c t
  |succ i=>simpa using cD.cons hk hv hb (ih i)
theorem E3 (hE:bw P E) (H:bf E base B μ h w) {t ty:TypeId} {mv k mv' k' v:Value} {h':ab} (ha:rG E base h t mv k=some (v,h')) (hm:aq μ mv mv') (hk:aq μ k k') (ts:Array TypeId) (ht:ts[0]? =some t):
 jP P E base B μ h w (Builtin.delete_ ts ty #[mv',k']) v h':=by
 unfold rG at ha;simp only[Option.bind_eq_some_iff]at ha;obtain⟨d,hd,ha⟩:=ha;split at ha
 ·rename_i kt et r;simp only[aj,Bool.and_eq_true,aG,Option.bind_eq_some_iff]at ha;obtain⟨⟨br,zk⟩,kd,ir,ct,ha⟩:=ha;split at ha
  ·rename_i es clock hg;obtain⟨m,hb,rfl⟩:=hm.k9;have ek:=hk.ar zk;subst ek;obtain⟨o1,o2,k1,k2,k3⟩:=H.obj r m hb;rw[hg]at k1;cases k1;cases k3 with
   |map hs=>
    rename_i bT;simp only[Option.bind_eq_some_iff]at ha;obtain⟨fr,CA,ha⟩:=ha;obtain⟨KM,q1,q2,q3⟩:=jx hs CA;have Cz:(Instr.findKey kt k' bT.toList).run P w= .ok KM w:=by
     simp only[Instr.findKey,Sem.run_bind,aC hE ir w,Result.andThen_ok,q1,Sem.run_pure]
    have sX:=ky (P:=P) hE ir ct bT.isEmpty 9999 k' w;have pz:=run_getObj_map (P:=P) k2 (fun _ _ _=>by simp);have Lk:=fun o=>cd (P:=P) (o:=o) k2 (fun _ _ _=>by simp);cases fr with
    |none=>
     have e:=q2 rfl;subst e;simp only[Option.some.injEq,Prod.mk.injEq]at ha;obtain⟨rfl,rfl⟩:=ha;have st:=Step.put H hb br hg rfl rfl (AK.set w m.r (.map bT clock) (H.lt hb)) (.map hs);refine⟨μ,.tuple #[],_,?_,aq.undef μ,st⟩;unfold Builtin.delete_;simp only[ht,List.getElem?_toArray,List.getElem?_cons_zero,List.getElem?_cons_succ,Sem.run_bind,aC hE hd w,Result.andThen_ok,pz,sX,Cz,Lk,Sem.run_pure]
    |some jv=>
     obtain⟨v',e,hr⟩:=q3 jv.1 jv.2 rfl;subst e;simp only[Option.some.injEq,Prod.mk.injEq]at ha;obtain⟨rfl,rfl⟩:=ha;have bF:=(vX CA).2;have hl:=hs.length;have st:=Step.put H hb br hg rfl rfl (AK.set w m.r (.map (bT.eraseIdxIfInBounds jv.1) clock) (H.lt hb)) (.map (by
      have S7:jv.1<bT.size:=by simp at hl bF;omega
      have:(bT.eraseIdxIfInBounds jv.1).toList=bT.toList.eraseIdx jv.1:=by
       simp[Array.eraseIdxIfInBounds,S7]
      rw[this];exact hs.eraseIdx jv.1))
     refine⟨μ,.tuple #[],_,?_,aq.undef μ,st⟩;unfold Builtin.delete_;simp only[ht,List.getElem?_toArray,List.getElem?_cons_zero,List.getElem?_cons_succ,Sem.run_bind,aC hE hd w,Result.andThen_ok,pz,sX,Cz,Lk,Sem.run_pure]
  ·cases ha
 ·cases ha
end
section
variable {P:Program} {E:Env} {μ:bn} {f:AF} {a:Act} {base B:Nat} {h:ab} {w:World}
theorem CD (hE:bw P E) (H:bf E base B μ h w) {st xt ty:TypeId} {s x s' x' v:Value} {h':ab} (ha:im E h st xt s x=some (v,h')) (hs:aq μ s s') (hx:aq μ x x'):
 jP P E base B μ h w (Builtin.append_ #[st,xt] ty #[s',x']) v h':=by
 unfold im at ha;simp only[Option.bind_eq_some_iff]at ha;obtain⟨sd,ct,xd,Pk,ha⟩:=ha;split at ha
 ·rename_i elem l;simp only[Option.bind_eq_some_iff,aj,Bool.and_eq_true,beq_iff,aR,aG,Option.some.injEq]at ha;obtain⟨size,fG,bytes,EH,z0,hz,⟨⟨⟨⟨G8,jj⟩,RC⟩,vo⟩,dr⟩,ha⟩:=ha;have es:s'= .slice none 0 0:=by cases hs;rfl
  subst es;have ex:x'= .int .i64 l:=hx.ar rfl;subst ex;obtain⟨ti,VM,OZ⟩:=AN hE EH;obtain⟨n,hn⟩:∃n:Nat,l=n:=⟨l.toNat,om⟩;subst hn;simp only[Int.toNat_natCast]at vo dr ha;have Pm:n+1≤1099511627776:=Nat.le_trans (Nat.le_mul_of_pos_right _ om) dr;have hwl:IntKind.i64.wrap (n:Int)=n:=IntWalk.i64_in _ om;have hmul:((n:Int)*(ti.bytes:Int))≤1099511627776:=by
   rw[VM];have h1:n*bytes≤(n+1)*(bytes+1):=Nat.mul_le_mul om om;have h2:=Int.ofNat_le.2 (Nat.le_trans h1 dr)
   rwa [Int.natCast_mul]at h2
  have Te:¬(((0+n:Nat):Int)>IntKind.i64.max):=by
   have e:IntKind.i64.max=9223372036854775807:=by decide
   rw[e];omega
  have gD:¬(Builtin.nextslicecap (0+n) 0*ti.bytes>2 ^ 48):=by
   have h1:=nextslicecap_le (n:=0+n) (c:=0) om;have h2:Builtin.nextslicecap (0+n) 0*ti.bytes≤16*(0+n)*bytes:=by rw[VM];exact Nat.mul_le_mul_right _ h1
   have h3:16*(0+n)*bytes≤16*((n+1)*(bytes+1)):=by
    rw[Nat.mul_assoc];exact Nat.mul_le_mul_left _ (Nat.mul_le_mul om om)
   have e:(2:Nat) ^ 48=281474976710656:=by decide
   rw[e];omega
  have qB:=(aq.b9 μ (hE.zero elem z0 hz).2).cells;have VJ:Builtin.zeroCells z0.cells n=(aP z0.cells.toList n).toArray:=by
   apply Array.ext';unfold Builtin.zeroCells;rw[rP z0.cells n om]
  have AQ:¬n*size=0:=by
   intro e;rcases Nat.mul_eq_zero.1 e with e|e<;>omega
  let nc:=(Question.appendCap (0+n) 0 elem).cut (w.tape w.drawn (Question.appendCap (0+n) 0 elem))
  have yx:n≤nc:=by simp only[nc,Question.cut];omega
  have run:(Builtin.append_ #[st,xt] ty #[.slice none 0 0,.int .i64 (n:Int)]).run P w= .ok (.slice (some ⟨w.heap.size,0,none⟩) n nc) {w with heap:=w.heap.push (.cells ((aP z0.cells.toList n).toArray++Builtin.zeroCells z0.cells (nc - n)) elem (0,0)),drawn:=w.drawn+1}:=by
   unfold Builtin.append_;simp only[List.getElem?_toArray,List.getElem?_cons_zero,List.getElem?_cons_succ,Sem.run_bind,aC hE ct w,aC hE Pk w,Result.andThen_ok,fL hE fG w,Sem.run_pure];split
   ·simp only[if_true,Sem.run_bind,asInt,asIntOf,Sem.run_pure,Result.andThen_ok,hwl];rw[if_neg (show¬((n:Nat):Int)<0 by omega)];simp only[Sem.run_bind,OZ w,Result.andThen_ok]
    rw[if_neg (show¬((n:Int)*(ti.bytes:Int)>2 ^ 48) by have e:(2:Int) ^ 48=281474976710656:=by decide
                                                       rw[e];omega)]
    simp only[Sem.run_bind,Sem.run_pure,Result.andThen_ok,Int.toNat_natCast];rw[if_neg (show¬(0+n≤0) by omega)];simp only[Sem.run_bind,OZ w,Result.andThen_ok];rw[if_neg (fun hh=>Te hh.1)];simp only[Sem.run_bind,OZ w,Result.andThen_ok];rw[if_neg gD];simp only[Sem.run_bind,run_choose,Question.forced,Bool.false_eq_true,if_false,Result.andThen_ok,OZ _,run_askRoom,Builtin.firstCells,Sem.run_pure,Bool.not_true,AQ,kq hE hz _,VJ];simp only[nc,Nat.zero_add,Array.empty_append];rfl
   ·rename_i bj;cases xd<;>simp[kj]at G8;exact absurd rfl (bj _)
  have hlen:(aP z0.cells.toList n).length=n*size:=by rw[di];simp[jj]
  obtain⟨aS,q1,q2⟩:=tt (elem:=elem) H (qB.aP n) (rest:=Builtin.zeroCells z0.cells (nc - n)) yx hlen (by rw[oI,jj]) (w.drawn+1);rw[ha]at q1 q2;exact⟨aS,_,_,run,q1,q2⟩
 ·cases ha
theorem E4 (hE:bw P E) (H:bf E base B μ h w) {b:Builtin} {ts:Array TypeId} {args:List Value} {args':Array Value} {v:Value} {h':ab} (ty:TypeId) (ha:vm E base h b ts.toList args=some (v,h')) (hr:ax μ args args'.toList):
 ∃s,jP P E base B μ h w s v h'∧∀cs,builtin b ts ty cs args'=(do pure (.value (←s))):=by
 obtain⟨ts⟩:=ts;obtain⟨args'⟩:=args';simp only at ha hr;unfold vm at ha;split at ha
 ·cases hr with
  |cons hs hr=>cases hr with
   |cons hx hr=>cases hr with
    |nil=>
     split at ha
     ·rename_i r hr;simp only[Option.some.injEq]at ha;exact⟨_,E2 (ty:=ty) hE H (hr.trans (congrArg some ha)) hs hx,fun _=>rfl⟩
     ·exact⟨_,CD (ty:=ty) hE H ha hs hx,fun _=>rfl⟩
 ·cases hr with
  |cons hs hr=>cases hr with
   |cons hx hr=>cases hr with
    |nil=>exact⟨_,Lj (ty:=ty) hE H ha hs hx _ rfl,fun _=>rfl⟩
 ·cases hr with
  |cons hs hr=>
   simp only[Option.bind_eq_some_iff]at ha;obtain⟨d,hd,ha⟩:=ha;exact⟨_,IN (ty:=ty) hE H ha hs _ rfl _ rfl ⟨d,hd⟩,fun _=>rfl⟩
 ·cases hr with
  |cons hs hr=>cases hr with
   |cons hx hr=>cases hr with
    |nil=>exact⟨_,E3 (ty:=ty) hE H ha hs hx _ rfl,fun _=>rfl⟩
 ·cases ha
theorem oJ {v:Value} {r:Nat} (h:mW v=some r):v= .pointer (some ⟨r,0,none⟩):=by
 unfold mW at h;split at h<;>simp at h;subst h;rfl
theorem cD.filter {l l':List MapEntry} (hs:cD μ l l') (p:Nat→Bool):cD μ (l.filter fun e=>p e.born) (l'.filter fun e=>p e.born):=by
 induction hs with
 |nil=>exact .nil
 |cons hk hv hb t ih=>
  simp only[List.filter_cons,hb];split
  ·exact .cons hk hv hb ih
  ·exact ih
theorem cD.CE {l l':List MapEntry} (hs:cD μ l l') (p:Nat→Bool):(l.all fun e=>p e.born)=(l'.all fun e=>p e.born):=by
 induction hs with
 |nil=>rfl
 |cons hk hv hb t ih=>simp only[List.all_cons,hb,ih]
theorem cD.find {l l':List MapEntry} (hs:cD μ l l') (p:Nat→Bool) {e:MapEntry} (he:l.find? (fun e=>p e.born)=some e):∃e',l'.find? (fun e=>p e.born)=some e'∧aq μ e.key e'.key∧aq μ e.val e'.val:=by
 induction hs with
 |nil=>simp at he
 |cons hk hv hb t ih=>
  simp only[List.find?_cons]at he ⊢;rw[←hb];split at he
  ·cases he;exact⟨_,rfl,hk,hv⟩
  ·exact ih he
theorem Ll (H:bf E base B μ h w) {isStr:Bool} {r:Nat} {m:MT} {v:Value} {h':ab} (ty:TypeId) (ha:GX h isStr r base=some (v,h')) (hb:μ r=some m):
 jP P E base B μ h w (Instr.next (.pointer (some ⟨m.r,0,none⟩)) isStr ty) v h':=by
 unfold GX at ha;simp only[aj,aG]at ha;obtain⟨br,ha⟩:=ha;obtain⟨o1,o2,k1,k2,k3⟩:=H.obj r m hb;split at ha
 ·rename_i s pos hg;rw[hg]at k1;cases k1;cases k3 with
  |iQ ju=>
   have pz:=run_getObj_map (P:=P) k2 (fun _ _ _=>by simp);have Lk:=fun o=>cd (P:=P) (o:=o) k2 (fun _ _ _=>by simp);rw[bZ]at ha;split at ha
   ·rename_i bF;rw[aR]at bF;simp only[Option.some.injEq,Prod.mk.injEq]at ha;obtain⟨rfl,rfl⟩:=ha;have st:=Step.put H hb br hg rfl rfl (AK.set w m.r (.stringIter s (pos+(Utf8.decode s pos).2)) (H.lt hb)) (.iQ ju);refine⟨μ,_,_,?_,.dC (by simpa[goInt]using ax.cons (.bool μ true) (.cons (.int μ .i64 pos) (.cons (.int μ .i32 (Utf8.decode s pos).1) .nil))),st⟩;unfold Instr.next;simp only[Sem.run_bind,pz,Result.andThen_ok];rw[if_pos bF];simp only[Sem.run_bind,Lk,Result.andThen_ok,Sem.run_pure];rfl
   ·rename_i bF;rw[aR]at bF;simp only[Option.some.injEq,Prod.mk.injEq]at ha;obtain⟨rfl,rfl⟩:=ha;refine⟨μ,_,w,?_,.dC (by simpa using ax.cons (.bool μ false) .nil),.refl H⟩;unfold Instr.next;simp only[Sem.run_bind,pz,Result.andThen_ok];rw[if_neg bF];rfl
 ·rename_i hg;rw[hg]at k1;cases k1;cases k3 with
  |lK ju=>
   have pz:=run_getObj_map (P:=P) k2 (fun _ _ _=>by simp);simp only[Option.some.injEq,Prod.mk.injEq]at ha;obtain⟨rfl,rfl⟩:=ha;refine⟨μ,_,w,?_,.dC (by simpa using ax.cons (.bool μ false) .nil),.refl H⟩;unfold Instr.next;simp only[Sem.run_bind,pz,Result.andThen_ok];rfl
 ·rename_i mm since seen last hg;rw[hg]at k1;cases k1;cases k3 with
  |cy hk ju=>
   rename_i mk;have pz:=run_getObj_map (P:=P) k2 (fun _ _ _=>by simp);have Lk:=fun o=>cd (P:=P) (o:=o) k2 (fun _ _ _=>by simp);split at ha
   ·rename_i es clock Lm;obtain⟨p1,p2,j1,j2,j3⟩:=H.obj mm mk hk;rw[Lm]at j1;cases j1;cases j3 with
    |map hs=>
     rename_i bT;have E5:=run_getObj_map (P:=P) j2 (fun _ _ _=>by simp);simp only[aj]at ha;obtain⟨j5,ha⟩:=ha;have hlen:=hs.length;have Tf:bT.isEmpty=es.isEmpty:=by
      cases es<;>cases h9:bT.toList<;>rw[h9]at hlen<;>simp at hlen
      ·have:bT= #[]:=by apply Array.ext';simp[h9]
       simp[this]
      ·have:bT.size≠0:=by have:=congrArg List.length h9;simp at this;omega
       simp[Array.isEmpty,this]
     have kr:(bT.all fun e=>decide (e.born≥last))=es.all (fun e=>Nat.ble last e.born):=by
      rw[←Array.all_toList,←hs.CE (fun n=>decide (n≥last))]
      congr 1
      funext e
      rw[Bool.eq_iff_iff,aG];simp
     have CG:(!seen.toArray.isEmpty&& !bT.isEmpty&&bT.all fun e=>decide (e.born≥last))=false:=by
      rw[Tf,kr];have:seen.toArray.isEmpty=seen.isEmpty:=by cases seen<;>simp
      rw[this];simpa only[Bool.not_eq_true']using j5
     have p5:=hs.filter (fun n=> !seen.contains n);have zl:(bT.filter fun e=> !seen.toArray.contains e.born).toList=bT.toList.filter (fun e=> !seen.contains e.born):=by
      simp
     split at ha
     ·rename_i hf;simp only[Option.some.injEq,Prod.mk.injEq]at ha;obtain⟨rfl,rfl⟩:=ha;rw[hf]at p5;have vo:(bT.filter fun e=> !seen.toArray.contains e.born)= #[]:=by
       apply Array.ext';rw[zl];cases vY:bT.toList.filter (fun e=> !seen.contains e.born)with
       |nil=>rfl
       |cons x y=>rw[vY]at p5;cases p5
      refine⟨μ,_,w,?_,.dC (by simpa using ax.cons (.bool μ false) .nil),.refl H⟩;unfold Instr.next;simp only[Sem.run_bind,pz,E5,Result.andThen_ok,CG,Bool.false_eq_true,if_false,vo];simp[Question.forced]
     ·rename_i e hf;simp only[aj,aR,Option.some.injEq,Prod.mk.injEq]at ha;obtain⟨acf,rfl,rfl⟩:=ha;rw[hf]at p5;cases vY:bT.toList.filter (fun e=> !seen.contains e.born)with
      |nil=>rw[vY]at p5;cases p5
      |cons e' rest=>
       rw[vY]at p5;cases p5 with
       |cons q1 q2 q3 q4=>cases q4 with
        |nil=>
        have CH:(bT.filter fun e=> !seen.toArray.contains e.born)= #[e']:=by
         apply Array.ext';rw[zl,vY]
        have hbe:e'.born<since:=by omega
        have st:=Step.put (o:=.cy (some mm) since (seen++[e.born]) clock) H hb br hg rfl rfl (AK.set w m.r (.mapIter (some mk.r) since (seen.toArray.push e'.born) clock) (H.lt hb)) (by
         have:=iM.cy (μ:=μ) (h:=h.put r (.cy (some mm) since (seen++[e.born]) clock)) (base:=base) (b:=r) (m:=m) (since:=since) (last:=clock) (seen:=seen++[e.born]) hk ju;rw[q3]at this ⊢;simpa using this)
        refine⟨μ,_,_,?_,.dC (by simpa using ax.cons (.bool μ true) (.cons q1 (.cons q2 .nil))),st⟩;unfold Instr.next;simp only[Sem.run_bind,pz,E5,Result.andThen_ok,CG,Bool.false_eq_true,if_false,CH];have f1:(#[e'].filter fun x=>decide (x.born<since))= #[e']:=by simp[hbe]
        have f2:(#[e'].filter fun x=>decide (x.born≥since))= #[]:=by simp;omega
        simp only[f1,f2];simp[Question.forced,Lk]
     ·cases ha
   ·cases ha
 ·cases ha
theorem IP (H:bf E base B μ h w) {r:Nat} {m:MT} {v:Value} (ha:oy h r=some v) (hb:μ r=some m):
 ∃v',aq μ v v'∧(Instr.entry (.pointer (some ⟨m.r,0,none⟩))).run P w= .ok v' w:=by
 unfold oy at ha;obtain⟨o1,o2,k1,k2,k3⟩:=H.obj r m hb;split at ha
 ·rename_i mm since seen GY hg;rw[hg]at k1;cases k1;cases k3 with
  |cy hk ju=>
   rename_i mk;have pz:=run_getObj_map (P:=P) k2 (fun _ _ _=>by simp);split at ha
   ·rename_i es clock Lm;obtain⟨p1,p2,j1,j2,j3⟩:=H.obj mm mk hk;rw[Lm]at j1;cases j1;cases j3 with
    |map hs=>
     rename_i bT;have E5:=run_getObj_map (P:=P) j2 (fun _ _ _=>by simp);simp only[Option.bind_eq_some_iff,aj,beq_iff,Option.some.injEq]at ha;obtain⟨Cr,h1,h2,e,h3,rfl⟩:=ha;obtain⟨e',q1,q2,q3⟩:=hs.find (fun n=>n==Cr) h3;refine⟨_,.dC (by simpa using ax.cons q2 (.cons q3 .nil)),?_⟩;have WG:seen.toArray.back? =some Cr:=by simpa using h1
     have WH:bT.find? (fun e=>e.born==Cr)=some e':=by rw[←Array.find?_toList];exact q1
     subst h2;unfold Instr.entry;simp only[Sem.run_bind,pz,E5,Result.andThen_ok,WG,WH];simp
   ·cases ha
 ·cases ha
end
end Go.M
