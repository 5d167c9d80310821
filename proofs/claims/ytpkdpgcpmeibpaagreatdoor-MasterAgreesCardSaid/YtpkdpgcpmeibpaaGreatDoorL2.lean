/-
  Part 2 of the library that the proof leans on.
-/
import Derived.Test.YtpkdpgcpmeibpaaGreatDoorL1
namespace Go.M
open Go
theorem CT:∀(l:List Value) (k off:Nat) (c:Array Value),off+k+l.length≤c.size→
 ((l.zipIdx k).foldl (fun cs p=>cs.setIfInBounds (off+p.2) p.1) c).size=c.size∧
 ∀i,((l.zipIdx k).foldl (fun cs p=>cs.setIfInBounds (off+p.2) p.1) c)[i]? =if off+k≤i∧i<off+k+l.length then l[i - (off+k)]? else c[i]?
 |[],k,off,c,h=>⟨rfl,fun i=>by rw[if_neg (by simp)];rfl⟩
 |v::l,k,off,c,h=>by
  simp only[List.length_cons]at h;have ih:=CT l (k+1) off (c.setIfInBounds (off+k) v) (by simp;omega);simp only[List.zipIdx_cons,List.foldl_cons];refine⟨by rw[ih.1];simp,fun i=>?_⟩;rw[ih.2 i];by_cases h1:off+(k+1)≤i∧i<off+(k+1)+l.length
  ·rw[if_pos h1,if_pos (by simp;omega)];have:i - (off+k)=(i - (off+(k+1)))+1:=by omega
   rw[this,List.getElem?_cons_succ]
  ·rw[if_neg h1];by_cases h2:i=off+k
   ·subst h2;rw[if_pos (by simp),Array.getElem?_setIfInBounds_self_of_lt om];simp
   ·rw[if_neg (by simp;omega),Array.getElem?_setIfInBounds_ne om]
theorem tG {μ:bx} {place place':Nat→Option (Nat×Nat)} (hp:∀i p,place i=some p→place' i=some p):∀{ps ps':List (Nat×Value)} {cells cs:List Value} {cells':Array Value},
 kO place cells ps=some cs→aA μ cells cells'.toList→(ps.length=ps'.length)→(∀(k:Nat) q,ps[k]? =some q→∃v',ps'[k]? =some (q.1,v')∧ar μ q.2 v')→
 ∃cs',Instr.fill place' cells' ps'=some cs'∧aA μ cs cs'.toList
 |[],ps',cells,cs,cells',h,hr,hl,hq=>by
  cases ps' with
  |nil=>simp only[kO,Option.some.injEq]at h;subst h;exact⟨cells',rfl,hr⟩
  |cons _ _=>simp at hl
 |(i,v)::ps,[],_,_,_,_,_,hl,_=>by simp at hl
 |(i,v)::ps,q'::ps',cells,cs,cells',h,hr,hl,hq=>by
  obtain⟨v',e1,hv⟩:=hq 0 (i,v) rfl;simp only[List.getElem?_cons_zero,Option.some.injEq]at e1;subst e1;simp only at hv;simp only[kO,Option.bind_eq_some_iff,aj,beq_iff]at h;obtain⟨⟨off,size⟩,h1,h2,c1,h3,h4⟩:=h;simp only at h2;obtain⟨s1,s2,s3⟩:=dG h3;have hlen:=hr.length;have QX:=hv.ya;have NH:off+v'.cells.toList.length≤cells'.size:=by
   simp at s1 hlen ⊢;omega
  have zf:=CT v'.cells.toList 0 off cells' om;have u3:aA μ c1 (v'.cells.zipIdx.foldl (fun cs p=>cs.setIfInBounds (off+p.2) p.1) cells').toList:=by
   have e:v'.cells.zipIdx.foldl (fun cs (p:Value×Nat)=>cs.setIfInBounds (off+p.2) p.1) cells'=(v'.cells.toList.zipIdx 0).foldl (fun cs p=>cs.setIfInBounds (off+p.2) p.1) cells':=by
    rw[←Array.foldl_toList];simp
   rw[e];refine .HI ?_ fun j a a' ha yf=>?_
   ·simp only[Array.length_toList];rw[zf.1,s2];simpa using hlen
   ·rw[s3 j]at ha;rw[Array.getElem?_toList,zf.2 j]at yf;simp only[Nat.add_zero]at yf;have Yx:v.cells.toList.length=v'.cells.toList.length:=by simpa using QX
    by_cases hj:off≤j∧j<off+v.cells.toList.length
    ·simp only at ha;rw[if_pos hj]at ha;rw[if_pos (by rw[←Yx];exact hj)]at yf;obtain⟨u,k1,k2⟩:=hv.cells.get ha;rw[yf]at k1;cases k1;exact k2
    ·simp only at ha;rw[if_neg hj]at ha;rw[if_neg (by rw[←Yx];exact hj)]at yf;obtain⟨u,k1,k2⟩:=hr.get ha;simp[yf]at k1;subst k1;exact k2
  have ih:=tG hp (ps':=ps') h4 u3 (by simpa using hl) (fun k q hk=>hq (k+1) q (by simpa using hk));obtain⟨cs',r1,r2⟩:=ih;refine⟨cs',?_,r2⟩;simp only[Instr.fill,hp _ _ h1];have hs:v'.cells.size=size:=by rw[←QX];exact h2
  rw[if_neg]
  ·exact r1
  ·simp at NH;simp[hs];omega
def Yy (μ:bx) (ps ps':List (Nat×Value)):Prop:=ps.length=ps'.length∧∀(k:Nat) q,ps[k]? =some q→∃v',ps'[k]? =some (q.1,v')∧ar μ q.2 v'
section
variable {P:Program} {E:Env} {μ:bx}
theorem ES (hE:bF P E) (g:Field→Nat×Nat):∀(fs:List Field) (w:World),(∀f∈fs,∃n,E.size f.type=some n∧g f=(f.offset,n))→
 (fs.mapM (m:=Sem) fun f=>do pure (f.offset,←sizeOf f.type)).run P w= .ok (fs.map g) w
 |[],w,_=>by simp
 |f::fs,w,h=>by
  obtain⟨n,h1,h2⟩:=h f (by simp);have ih:=ES hE g fs w (fun x hx=>h x (by simp[hx]));simp only[List.mapM_cons,Sem.run_bind,gC hE h1 w,Result.andThen_ok,Sem.run_pure,ih,List.map_cons,h2]
theorem RA (hE:bF P E) {t:TypeId} {ps ps':List (Nat×Value)} {v:Value} (h:uV E t ps=some v) (hp:Yy μ ps ps'):∃v',ar μ v v'∧fJ P (Instr.build t ps'.toArray) v':=by
 unfold uV at h;simp only[Option.bind_eq_some_iff]at h;obtain⟨d,h1,z,h2,h3⟩:=h;have hz:=ar.cF μ (hE.zero t z h2).2;have X1:aA μ z.cells.toList z.cells.toList:=hz.cells;split at h3
 ·rename_i fields;simp only[aj,Option.bind_eq_some_iff,Option.some.injEq]at h3;obtain⟨cC,cs,h4,rfl⟩:=h3;have Rz:∀f∈fields.toList,∃n,E.size f.type=some n∧(fun f:Field=>(f.offset,(E.size f.type).getD 0)) f=(f.offset,n):=by
   intro f hf;rw[Array.all_eq_true]at cC;obtain⟨i,hi,rfl⟩:=List.mem_iff_getElem.1 hf;have:=cC i (by simpa using hi);obtain⟨n,hn⟩:=Option.isSome_iff_exists.1 this;have KZ:E.size (fields.toList[i]).type=some n:=by simpa using hn
   exact⟨n,KZ,by simp only[KZ,Option.getD_some]⟩
  have Vc:∀i p,sc E fields i=some p→((fields.toList.map (fun f:Field=>(f.offset,(E.size f.type).getD 0))).toArray)[i]? =some p:=by
   intro i p hi;unfold sc at hi;simp only[Option.bind_eq_some_iff,Option.some.injEq]at hi;obtain⟨fd,k1,n,k2,rfl⟩:=hi;simp[k1,k2]
  obtain⟨cs',q1,q2⟩:=tG (μ:=μ) Vc (ps':=ps') h4 X1 hp.1 hp.2;refine⟨.agg cs',.gZ (by simpa using q2),fun w=>?_⟩;have hm:=ES hE (fun f:Field=>(f.offset,(E.size f.type).getD 0)) fields.toList w Rz;unfold Instr.build;simp only[Sem.run_bind,lG hE h2 w,Result.andThen_ok,aL hE h1 w];have hm2:(fields.mapM (m:=Sem) fun f=>do pure (f.offset,←sizeOf f.type)).run P w= .ok (fields.toList.map (fun f:Field=>(f.offset,(E.size f.type).getD 0))).toArray w:=by
   rw[Array.mapM_eq_mapM_toList];simp only[Sem.run_map,hm,Result.andThen_ok]
  simp only[hm2,Result.andThen_ok,q1,Sem.run_pure]
 ·rename_i len elem;simp only[Option.bind_eq_some_iff,Option.some.injEq]at h3;obtain⟨n,h3,cs,h4,rfl⟩:=h3;obtain⟨cs',q1,q2⟩:=tG (μ:=μ) (place':=fun i=>some (i*n,n)) (fun _ _ h=>h) (ps':=ps') h4 X1 hp.1 hp.2;refine⟨.agg cs',.gZ (by simpa using q2),fun w=>?_⟩;unfold Instr.build;simp only[Sem.run_bind,lG hE h2 w,Result.andThen_ok,aL hE h1 w,gC hE h3 w,q1,Sem.run_pure]
 ·cases h3
theorem wi {s:Sem Value} {v:Value} (h:fb s=some v):fJ P s v:=by
 intro w;cases s<;>simp[fb]at h;subst h;rfl
theorem so (hE:bF P E) {op:BinOp} {t:TypeId} {x y:Operand} {a b a' b':Value} (ha:ar μ a a') (hb:ar μ b b')
 (hg:oD E t x y a b=true):fJ P (eqGuard op t x y a' b') ():=by
 intro w;unfold eqGuard;cases op<;>(try rfl)
 all_goals
  simp only[Bool.not_true,Bool.false_eq_true,if_false];split
  ·cases ha with
   |lit _=>cases hb with
    |lit _=>
     simp only[oD]at hg;cases x<;>cases y<;>simp[pU]at hg<;>simp
    |CM _=>simp[oD]at hg
   |CM _=>simp[oD]at hg
  ·rename_i u1 u2;cases ha with
   |lit hh=>simp[aB]at hh
   |agg h1 h2=>cases hb with
    |lit hh=>simp[aB]at hh
    |agg k1 k2=>
     simp only[oD]at hg;simp[run_program,(hE.tu t hg).1]
    |CM hh=>rcases hh with hh|⟨_,_,hh⟩<;>cases hh
   |CM hh=>rcases hh with hh|⟨_,_,hh⟩<;>cases hh
  ·rfl
theorem Yz (hE:bF P E) {op:BinOp} {t:TypeId} {x y:Operand} {a b a' b' v:Value} (h:x7 E op t x y a b=some v) (ha:ar μ a a') (hb:ar μ b b'):
 ∃v',ar μ v v'∧fJ P (do eqGuard op t x y a' b';binOp op t a' b') v':=by
 unfold x7 at h;split at h
 ·cases ha.ay rfl;cases hb.ay rfl;rename_i k n k' n';have hs:scalar v=true:=by
   simp only[binOp]at h;have:∀s:Sem Value,fb s=some v→(∃u,s= .pure u∧scalar u=true)→scalar v=true:=by
    rintro s hs ⟨u,rfl,hu⟩;simp[fb]at hs;subst hs;exact hu
   cases op<;>simp only at h<;>(try split at h)<;>
    first
    |(simp[fb,stuck]at h;done)
    |(simp only[fb,Op.intArith,Op.intBits,Op.intCmp,Pure.pure,Option.some.injEq]at h;subst h;rfl)
    |(unfold Op.intDiv at h;split at h
      ·simp[runtimePanic,fb,program,bind,Sem.bind]at h
      ·simp only[fb,Pure.pure,Option.some.injEq]at h;subst h;rfl)
    |(unfold Op.shift at h;split at h
      ·simp[runtimePanic,fb,program,bind,Sem.bind]at h
      ·simp only[fb,Pure.pure,Option.some.injEq]at h;subst h;rfl)
  refine⟨v,.qP μ hs,fun w=>?_⟩;have hg:=so hE (μ:=μ) (op:=op) (t:=t) (x:=x) (y:=y) (.int μ k n) (.int μ k' n') rfl w;simp only[Sem.run_bind,hg,Result.andThen_ok];exact wi h w
 ·cases ha.ay rfl;cases hb.ay rfl;rename_i s r;have hg:∀w,(eqGuard op t x y (.string s) (.string r)).run P w= .ok () w:=so hE (μ:=μ) (.string μ s) (.string μ r) rfl;have et:∀q:ByteArray,q.toList=q.data.toList:=fun q=>ByteArray.toList_eq q;split at h<;>(first|(simp only[Option.some.injEq]at h;subst h;refine⟨_,.lit rfl,fun w=>?_⟩;simp only[Sem.run_bind,hg w,Result.andThen_ok];simp[binOp,Op.stringOp,et])|skip)
  ·simp only[aj,decide_eq_true_eq,Option.some.injEq]at h;obtain⟨h1,rfl⟩:=h;refine⟨_,.lit rfl,fun w=>?_⟩;simp only[Sem.run_bind,hg w,Result.andThen_ok];have e:IntKind.i64.max=9223372036854775807:=by decide
   simp only[binOp,Op.stringOp,e];rw[if_neg om];rfl
  ·cases h
 ·rename_i Nc CU;simp only[aj]at h;obtain⟨h1,h2⟩:=h;have hg:=so hE (op:=op) (t:=t) (x:=x) (y:=y) ha hb h1;have key:∀r,xi E 100 t a b=some r→fJ P (Op.equal t a' b') r:=fun r hr=>by
   unfold Op.equal Op.maxDepth;exact Yw hE 100 10000 t a b a' b' r om hr ha hb
  have Ug:∀(w:World) r,fJ P (Op.equal t a' b') r→(binOp .eql t a' b').run P w= .ok (.bool r) w∧(binOp .neq t a' b').run P w= .ok (.bool !r) w:=by
   intro w r hr;have hh:(∀k n k' n',¬(a'= .int k n∧b'= .int k' n'))∧(∀s r,¬(a'= .string s∧b'= .string r)):=by
    refine⟨?_,?_⟩
    ·rintro k n k' n' ⟨rfl,rfl⟩;cases ha with
     |CM hh=>rcases hh with hh|⟨_,_,hh⟩<;>cases hh
     |lit _=>cases hb with
      |CM hh=>rcases hh with hh|⟨_,_,hh⟩<;>cases hh
      |lit _=>exact Nc _ _ _ _ rfl rfl
    ·rintro s r ⟨rfl,rfl⟩;cases ha with
     |CM hh=>rcases hh with hh|⟨_,_,hh⟩<;>cases hh
     |lit _=>cases hb with
      |CM hh=>rcases hh with hh|⟨_,_,hh⟩<;>cases hh
      |lit _=>exact CU _ _ rfl rfl
   have u4:(∀k n k' n',¬(a'= .float k n∧b'= .float k' n'))∧(∀k x y k' x' y',¬(a'= .complex k x y∧b'= .complex k' x' y')):=by
    refine⟨?_,?_⟩
    ·rintro k n k' n' ⟨rfl,rfl⟩;cases ha with|lit hx=>simp[aB]at hx|CM hh=>rcases hh with hh|⟨_,_,hh⟩<;>cases hh
    ·rintro k x y k' x' y' ⟨rfl,rfl⟩;cases ha with|lit hx=>simp[aB]at hx|CM hh=>rcases hh with hh|⟨_,_,hh⟩<;>cases hh
   have ni:=hr w
   cases a'<;>cases b'<;>
    first
    |exact absurd ⟨rfl,rfl⟩ (hh.1 _ _ _ _)
    |exact absurd ⟨rfl,rfl⟩ (hh.2 _ _)
    |exact absurd ⟨rfl,rfl⟩ (u4.1 _ _ _ _)
    |exact absurd ⟨rfl,rfl⟩ (u4.2 _ _ _ _ _ _)
    |(simp only[binOp];simp only[Sem.run_bind,ni,Result.andThen_ok,Sem.run_pure];exact⟨trivial,trivial⟩)
  split at h2
  ·simp only[Option.bind_eq_some_iff,Option.some.injEq]at h2;obtain⟨r,h3,rfl⟩:=h2;exact⟨_,.bool μ r,fun w=>by simp only[Sem.run_bind,hg w,Result.andThen_ok];exact(Ug w r (key r h3)).1⟩
  ·simp only[Option.bind_eq_some_iff,Option.some.injEq]at h2;obtain⟨r,h3,rfl⟩:=h2;exact⟨_,.bool μ _,fun w=>by simp only[Sem.run_bind,hg w,Result.andThen_ok];exact(Ug w r (key r h3)).2⟩
  ·cases h2
end
theorem ij (r o n:Nat):(⟨r,o,none⟩:Addr).add n=⟨r,o+n,none⟩:=by
 unfold Addr.add;by_cases h:n=0
 ·simp[h]
 ·simp[h]
def tH (μ:bx) (x x':Option Value):Prop:=match x,x' with
 |none,none=>True
 |some v,some v'=>ar μ v v'
 |_,_=>False
theorem gD {KU y:Nat} {x:Option Value} {n:Nat} (h:cQ KU y x=some n):(x=none∧n=KU)∨(∃k i,x=some (.int k i)∧0≤i∧i≤y∧n=i.toNat):=by
 unfold cQ at h;split at h
 ·simp at h;exact .inl ⟨rfl,h.symm⟩
 ·simp only[aj,Bool.and_eq_true,decide_eq_true_eq,Option.some.injEq]at h;exact .inr ⟨_,_,rfl,h.1.1,h.1.2,h.2.symm⟩
 ·cases h
theorem dW {P:Program} {k:IntKind} {i:Int} {y:Nat} (h0:0≤i) (h1:i≤y) (code:BoundsCode):fJ P (Instr.sliceBound (.int k i) y code) i.toNat:=by
 intro w;simp[Instr.sliceBound,asIntOf,h0,h1]
theorem nj {P:Program} {μ:bx} (isSlice:Bool) {len cap cap':Nat} (K3:len≤cap') {lo hi mx X2 Bn ND:Option Value} {m h l:Nat}
 (hm:cQ cap len mx=some m) (hh:cQ len (bif mx.isSome then m else len) hi=some h) (hg:(hi.isSome||mx.isNone)=true) (hl:cQ 0 h lo=some l)
 (rl:tH μ lo X2) (rh:tH μ hi Bn) (rm:tH μ mx ND):
 fJ P (Instr.sliceBounds isSlice len cap' X2 Bn ND) (l,h,if mx.isSome then m else cap')∧l≤h∧h≤len∧(mx.isSome=true→m≤len∧h≤m)∧(mx=none→m=cap):=by
 have key:∀{x x':Option Value} {k:IntKind} {i:Int},x=some (.int k i)→tH μ x x'→x'=some (.int k i):=by
  intro x x' k i hx hr;subst hx;cases x' with
  |none=>exact hr.elim
  |some v'=>rw[ar.ay hr rfl]
 have ET:∀{x x':Option Value},x=none→tH μ x x'→x'=none:=by
  intro x x' hx hr;subst hx;cases x' with
  |none=>rfl
  |some v'=>exact hr.elim
 have CV:l≤h:=by
  rcases gD hl with⟨_,rfl⟩|⟨k,i,_,h0,h1,rfl⟩<;>omega
 rcases gD hm with⟨em,rfl⟩|⟨k,i,em,m0,m1,rfl⟩
 ·have YA:=ET em rm;subst em;subst YA;simp only[Option.isSome_none,cond_false]at hh;rcases gD hh with⟨eh,rfl⟩|⟨k2,i2,eh,p0,p1,rfl⟩
  ·have YB:=ET eh rh;subst eh;subst YB;refine⟨fun w=>?_,CV,Nat.le_refl _,fun h=>by simp at h,fun _=>rfl⟩;rcases gD hl with⟨el,rfl⟩|⟨k3,i3,el,q0,q1,rfl⟩
   ·have NI:=ET el rl;subst el;subst NI;simp[Instr.sliceBounds]
   ·have NI:=key el rl;subst el;subst NI;simp[Instr.sliceBounds,dW q0 q1 _ w]
  ·have YB:=key eh rh;subst eh;subst YB;refine⟨fun w=>?_,CV,om,fun h=>by simp at h,fun _=>rfl⟩;rcases gD hl with⟨el,rfl⟩|⟨k3,i3,el,q0,q1,rfl⟩
   ·have NI:=ET el rl;subst el;subst NI;simp[Instr.sliceBounds,dW p0 (show i2≤(cap':Int) by omega) _ w]
   ·have NI:=key el rl;subst el;subst NI;simp[Instr.sliceBounds,dW p0 (show i2≤(cap':Int) by omega) _ w,dW q0 q1 _ w]
 ·have YA:=key em rm;subst em;subst YA;simp only[Option.isSome_some,cond_true]at hh;rcases gD hh with⟨eh,rfl⟩|⟨k2,i2,eh,p0,p1,rfl⟩
  ·subst eh;simp at hg
  ·have YB:=key eh rh;subst eh;subst YB;refine⟨fun w=>?_,CV,om,fun _=>⟨om,om⟩,fun h=>by simp at h⟩;rcases gD hl with⟨el,rfl⟩|⟨k3,i3,el,q0,q1,rfl⟩
   ·have NI:=ET el rl;subst el;subst NI;simp[Instr.sliceBounds,dW m0 (show i≤(cap':Int) by omega) _ w,dW p0 p1 _ w]
   ·have NI:=key el rl;subst el;subst NI;simp[Instr.sliceBounds,dW m0 (show i≤(cap':Int) by omega) _ w,dW p0 p1 _ w,dW q0 q1 _ w]
section
variable {P:Program} {E:Env} {μ:bx}
theorem K4 (hE:bF P E) {t:TypeId} {x x' v:Value} {lo hi mx X2 Bn ND:Option Value} (h:jc E t x lo hi mx=some v) (hx:ar μ x x') (rl:tH μ lo X2) (rh:tH μ hi Bn) (rm:tH μ mx ND):
 ∃v',ar μ v v'∧fJ P (Instr.sliceAt t x' X2 Bn ND) v':=by
 unfold jc at h;simp only[Option.bind_eq_some_iff]at h;obtain⟨d,hd,h⟩:=h;split at h
 ·rename_i s;cases hx.ay rfl;simp only[aj,Option.bind_eq_some_iff,Option.some.injEq]at h;obtain⟨hm,hh,h1,ll,h2,rfl⟩:=h;have em:mx=none:=by simpa using hm
  subst em
  have YA:ND=none:=by cases ND with
   |none=>rfl
   |some v'=>exact rm.elim
  subst YA;have gb:=(nj (P:=P) (μ:=μ) false (cap':=s.size) (Nat.le_refl _) (cap:=s.size) (mx:=none) (ND:=none) rfl (by simpa using h1) (by simp) h2 rl rh trivial).1;refine⟨_,.string μ _,fun w=>?_⟩;simp[Instr.sliceAt,aL hE hd w,Instr.slice,gb w]
 ·cases hx with
  |lit _=>
  simp only[Option.bind_eq_some_iff,aj,Option.some.injEq]at h;obtain⟨size,hs,m,hm,hh,h1,hg,ll,h2,rfl⟩:=h;obtain⟨gb,q1,q2,q3,q4⟩:=nj (P:=P) (μ:=μ) true (cap':=0) (Nat.le_refl _) hm h1 hg h2 rl rh rm;refine⟨_,.lit rfl,fun w=>?_⟩;have e0:hh=0:=by omega
  have e1:ll=0:=by omega
  subst e0;subst e1;have e2:(if mx.isSome=true then m else 0)=0:=by
   cases gR:mx.isSome with
   |true=>have:=(q3 gR).1;simp;omega
   |false=>simp
  simp only[Instr.sliceAt,Sem.run_bind,aL hE hd w,Result.andThen_ok,Instr.slice,gb w,gC hE hs w,Sem.run_pure,e2];simp
 ·rename_i elem b o z len cap;simp only[Option.bind_eq_some_iff,aj,beq_iff,Option.some.injEq]at h;obtain⟨size,hs,e,m,hm,hh,h1,hg,ll,h2,rfl⟩:=h;subst e
  have main:∀(a':Addr) (cap':Nat),x'= .slice (some a') len cap'→len≤cap'→∃m',fJ P (Instr.sliceAt t x' X2 Bn ND) (.slice (some (if m'=ll then a' else a'.add (ll*size))) (hh - ll) (m' - ll))∧
   (m'=if mx.isSome then m else cap')∧ll≤hh∧hh≤len∧(mx.isSome=true→m≤len∧hh≤m)∧(mx=none→m=cap):=by
   intro a' cap' ex K3;obtain⟨gb,q1,q2,q3,q4⟩:=nj (P:=P) (μ:=μ) true K3 hm h1 hg h2 rl rh rm;refine⟨if mx.isSome then m else cap',fun w=>?_,rfl,q1,q2,q3,q4⟩;subst ex;simp only[Instr.sliceAt,Sem.run_bind,aL hE hd w,Result.andThen_ok,Instr.slice,gb w,gC hE hs w,Sem.run_pure]
   congr 2
   by_cases hz:(if mx.isSome=true then m else cap')=ll
   ·rw[if_pos hz,if_pos hz]
   ·rw[if_neg hz,if_neg hz];rfl
  cases hx with
  |lit hh=>simp[aB]at hh
  |slice hb k1 k2 k3 k4=>
   rename_i cap' mt;obtain⟨m',g1,e1,q1,q2,q3,q4⟩:=main _ _ rfl k2;refine⟨_,?_,g1⟩;by_cases hz:m'=ll
   ·rw[if_pos hz];have e2:hh - ll=0:=by
     cases gR:mx.isSome with
     |true=>have:=q3 gR;rw[gR]at e1;simp at e1;omega
     |false=>rw[gR]at e1;simp at e1;omega
    rw[e2,show m' - ll=0 by omega];simp only[bZ];split<;>exact .df fun _=>⟨_,hb⟩
   ·rw[if_neg hz,ij];have hmc:m≠ll:=by
     intro e2;cases gR:mx.isSome with
     |true=>rw[gR]at e1;simp at e1;omega
     |false=>
      have:=q4 (by simpa using gR);rw[gR]at e1;simp at e1;have:=k3 om;omega
    simp only[bZ,beq_iff,if_neg hmc];have abU:m'≤cap':=by
     cases gR:mx.isSome with
     |true=>have:=q3 gR;rw[gR]at e1;simp at e1;omega
     |false=>rw[gR]at e1;simp at e1;omega
    have hlm:ll≤m':=by
     cases gR:mx.isSome with
     |true=>have:=q3 gR;rw[gR]at e1;simp at e1;omega
     |false=>rw[gR]at e1;simp at e1;omega
    have e3:mt.s+o+ll*size=mt.s+(o+ll*size):=by omega
    rw[e3];refine .slice hb ?_ ?_ ?_ ?_
    ·cases gR:mx.isSome with
     |true=>have:=q3 gR;omega
     |false=>have:=q4 (by simpa using gR);omega
    ·cases gR:mx.isSome with
     |true=>have:=q3 gR;rw[gR]at e1;simp at e1;omega
     |false=>rw[gR]at e1;simp at e1;omega
    ·intro e4;cases gR:mx.isSome with
     |true=>have:=q3 gR;rw[gR]at e1;simp at e1;omega
     |false=>
      have:=q4 (by simpa using gR);rw[gR]at e1;simp at e1;have:=k3 om;omega
    ·have:ll*size+(m' - ll)*size=m'*size:=by rw[←Nat.add_mul];congr 1;omega
     have:m'*size≤cap'*size:=Nat.mul_le_mul_right _ abU;omega
  |df hb=>
   rename_i a';obtain⟨m',g1,e1,q1,q2,q3,q4⟩:=main a' 0 rfl (Nat.le_refl _);refine⟨_,?_,g1⟩;have HK:m'=0:=by
    cases gR:mx.isSome with
    |true=>have:=q3 gR;rw[gR]at e1;simp at e1;omega
    |false=>rw[gR]at e1;simp at e1;omega
   have mP:ll=0:=by omega
   have YC:hh=0:=by omega
   subst HK;subst mP;subst YC;simp only[if_true,Nat.sub_zero];simp only[bZ];have hk:m≠0→_:=fun hc=>hb (by
    cases gR:mx.isSome with
    |true=>have:=q3 gR;omega
    |false=>have:=q4 (by simpa using gR);omega)
   split
   ·exact .df fun hc=>hk om
   ·exact .df fun hc=>hk om
 ·cases h
theorem EU (hE:bF P E) {t:TypeId} {x x' i i' v:Value} (h:fD E t x i=some v) (hx:ar μ x x') (hi:ar μ i i'):∃v',ar μ v v'∧fJ P (Instr.indexAt t x' i') v':=by
 unfold fD at h;simp only[Option.bind_eq_some_iff]at h;obtain⟨d,hd,n,hn,h⟩:=h;have ei:∃k,i= .int k n:=by
  unfold Rw at hn;split at hn<;>simp at hn;subst hn;exact⟨_,rfl⟩
 obtain⟨k,rfl⟩:=ei;cases hi.ay rfl;split at h
 ·rename_i len elem b o;simp only[Option.bind_eq_some_iff,aj,Bool.and_eq_true,decide_eq_true_eq,Option.some.injEq]at h;obtain⟨size,hs,⟨h0,h1⟩,rfl⟩:=h;obtain⟨m,hb,rfl⟩:=hx.jd;refine⟨.pointer (some ⟨m.r,m.s+(o+n.toNat*size),none⟩),.ptr hb,fun w=>?_⟩;simp[Instr.indexAt,asIntOf,aL hE hd w,Instr.sureAddr,h0,h1,gC hE hs w,ij,Nat.add_assoc]
 ·rename_i elem b o z len cap;simp only[Option.bind_eq_some_iff,aj,Bool.and_eq_true,decide_eq_true_eq,Option.some.injEq]at h;obtain⟨size,hs,⟨h0,h1⟩,rfl⟩:=h;cases hx with
  |lit hh=>simp[aB]at hh
  |slice hb k1 k2 k3 k4=>
   rename_i cap' m;refine⟨.pointer (some ⟨m.r,m.s+(o+n.toNat*size),none⟩),.ptr hb,fun w=>?_⟩;simp[Instr.indexAt,asIntOf,aL hE hd w,h0,h1,gC hE hs w,ij,Nat.add_assoc]
  |df=>exact absurd h1 om
 ·cases h
theorem RB (hE:bF P E) {t:TypeId} {x x' i i' v:Value} (h:uW E t x i=some v) (hx:ar μ x x') (hi:ar μ i i'):∃v',ar μ v v'∧fJ P (Instr.index t x' i') v':=by
 unfold uW at h;simp only[Option.bind_eq_some_iff]at h;obtain⟨d,hd,n,hn,h⟩:=h;have ei:∃k,i= .int k n:=by
  unfold Rw at hn;split at hn<;>simp at hn;subst hn;exact⟨_,rfl⟩
 obtain⟨k,rfl⟩:=ei;cases hi.ay rfl;split at h
 ·rename_i len elem cs;simp only[Option.bind_eq_some_iff,aj,Bool.and_eq_true,decide_eq_true_eq]at h;obtain⟨size,hs,⟨h0,h1⟩,h2⟩:=h;obtain⟨cs',rfl,hr⟩:=hx.fF;obtain⟨v',q1,q2⟩:=CS hE (μ:=μ) h2 hr;refine⟨v',q1,fun w=>?_⟩;have e:cs'.toList.toArray=cs':=by simp
  rw[e]at q2;simp only[Instr.index,asIntOf,Sem.run_bind,Sem.run_pure,Result.andThen_ok,aL hE hd w];rw[if_pos ⟨h0,h1⟩];simp only[Sem.run_bind,gC hE hs w,Result.andThen_ok,q2 w]
 ·rename_i s;simp only[aj,decide_eq_true_eq,Option.bind_eq_some_iff,Option.some.injEq]at h;obtain⟨h0,b,hb,rfl⟩:=h;cases hx.ay rfl;refine⟨_,.int μ _ _,fun w=>?_⟩;have e:s[n.toNat]? =some b:=by
   have:=(List.getElem?_eq_some_iff.1 hb);obtain⟨aN,hv⟩:=this;have Vd:n.toNat<s.size:=by simpa using aN
   rw[getElem?_pos s n.toNat Vd];simp only[Option.some.injEq];rw[←hv];rfl
  simp only[Instr.index,asIntOf,Sem.run_bind,Sem.run_pure,Result.andThen_ok,aL hE hd w];rw[if_pos h0,e];rfl
 ·cases h
theorem Ve (hE:bF P E) {s d:TypeId} {x x' v:Value} (h:rO E s d x=some v) (hx:ar μ x x'):∃v',ar μ v v'∧fJ P (convert s d x') v':=by
 unfold rO at h;simp only[Option.bind_eq_some_iff]at h;obtain⟨ds,h1,dd,h2,h⟩:=h;split at h
 ·rename_i k k' n;cases hx.ay rfl;simp only[Option.some.injEq]at h;subst h;refine⟨_,.int μ _ _,fun w=>?_⟩;unfold convert;simp only[Sem.run_bind,aL hE h1 w,aL hE h2 w,Result.andThen_ok];rfl
 ·rename_i str;cases hx.ay rfl;simp only[Option.some.injEq]at h;subst h;refine⟨_,.string μ _,fun w=>?_⟩;unfold convert;simp only[Sem.run_bind,aL hE h1 w,aL hE h2 w,Result.andThen_ok];cases ds<;>rfl
 ·cases h
theorem NJ (hE:bF P E) {b:Builtin} {ts:Array TypeId} {args:List Value} {args':Array Value} {v:Value} (ty:TypeId) (cs:Array Bool) (h:qO E b ts.toList args=some v) (ha:aA μ args args'.toList):
 ∃v',ar μ v v'∧fJ P (builtin b ts ty cs args') (.value v'):=by
 obtain⟨ts⟩:=ts;obtain⟨args'⟩:=args';simp only at h ha;unfold qO at h;split at h
 ·rename_i t ts x xs;cases ha with
  |cons hx _=>
  simp only[Option.bind_eq_some_iff]at h;obtain⟨d,hd,h⟩:=h;split at h
  ·cases hx.ay rfl;simp only[Option.some.injEq]at h;subst h;exact⟨_,.int μ _ _,fun w=>by simp[builtin,Builtin.len_,aL hE hd w,goInt]⟩
  ·simp only[Option.some.injEq]at h;subst h;exact⟨_,.int μ _ _,fun w=>by simp[builtin,Builtin.len_,aL hE hd w,goInt]⟩
  ·simp only[Option.some.injEq]at h;subst h;cases hx with
   |lit hh=>
    rename_i a n c;have:∃q,a=none∧n=0∧c=0∧q=0:=by
     unfold aB at hh;split at hh<;>simp_all
    obtain⟨_,rfl,rfl,rfl,_⟩:=this;exact⟨_,.int μ _ _,fun w=>by simp[builtin,Builtin.len_,aL hE hd w,goInt]⟩
   |slice=>exact⟨_,.int μ _ _,fun w=>by simp[builtin,Builtin.len_,aL hE hd w,goInt]⟩
   |df=>exact⟨_,.int μ _ _,fun w=>by simp[builtin,Builtin.len_,aL hE hd w,goInt]⟩
  ·simp only[Option.some.injEq]at h;subst h;cases hx;exact⟨_,.int μ _ _,fun w=>by simp[builtin,Builtin.len_,aL hE hd w,goInt]⟩
  ·cases h
 ·simp only[Option.some.injEq]at h;subst h;cases ha with
  |cons hx ha=>cases ha with
   |cons hy ha=>cases ha with
    |nil=>
     cases hx.ay rfl;cases hy.ay rfl;exact⟨_,.int μ _ _,fun w=>by simp[builtin,Builtin.max_,Builtin.max2]⟩
 ·simp only[Option.some.injEq]at h;subst h;cases ha with
  |cons hx ha=>cases ha with
   |cons hy ha=>cases ha with
    |nil=>
     cases hx.ay rfl;cases hy.ay rfl;exact⟨_,.int μ _ _,fun w=>by simp[builtin,Builtin.min_,Builtin.min2]⟩
 ·rename_i t ts;simp only[Option.bind_eq_some_iff]at h;obtain⟨d,hd,h⟩:=h;split at h
  ·simp only[Option.some.injEq]at h;subst h;cases ha with
   |cons hx ha=>cases ha with
    |nil=>
     cases hx with
     |lit hh=>exact⟨_,.int μ _ _,fun w=>by simp[builtin,Builtin.cap_,aL hE hd w,goInt]⟩
  ·cases h
 ·cases h
end
def hY (E:Env) (μ:bx):Prop:=∀g,E.dp g=true→∃m,μ g=some m∧m.r=g∧m.s=0
section
variable {P:Program} {E:Env} {μ:bx} {f:AF} {a:Act}
theorem bp (hg:hY E μ) (hf:dj μ f a.tmps) {x:Operand} {v:Value} (h:ev E f x=some v):ar μ v (a.eval x):=by
 cases x with
 |tmp t=>simp only[ev,Option.some.injEq]at h;subst h;exact hf.get t
 |const c=>simp only[ev,aj,Option.some.injEq]at h;obtain⟨h1,rfl⟩:=h;exact .cF μ h1
 |global g=>
  simp only[ev,aj,Option.some.injEq]at h;obtain⟨h1,rfl⟩:=h;obtain⟨m,h2,h3,h4⟩:=hg g h1;have:=ar.ptr (o:=0) h2;rw[h3,h4]at this;exact this
 |func g=>simp only[ev,Option.some.injEq]at h;subst h;exact .func rfl (fun i v v' h=>by simp at h) rfl (fun i v v' h=>by simp at h)
theorem k9 (hg:hY E μ) (hf:dj μ f a.tmps):∀{xs:List Operand} {vs:List Value},Hs E f xs=some vs→aA μ vs (xs.map a.eval)
 |[],vs,h=>by simp only[Hs,Option.some.injEq]at h;subst h;exact .nil
 |x::xs,vs,h=>by
  simp only[Hs,Option.bind_eq_some_iff,Option.some.injEq]at h;obtain⟨v,h1,l,h2,rfl⟩:=h;exact .cons (bp hg hf h1) (k9 hg hf h2)
theorem pZ (hg:hY E μ) (hf:dj μ f a.tmps):∀{xs:List (Nat×Operand)} {vs:List (Nat×Value)},ja E f xs=some vs→Yy μ vs (xs.map fun p=>(p.1,a.eval p.2))
 |[],vs,h=>by simp only[ja,Option.some.injEq]at h;subst h;exact⟨rfl,fun k q h=>by simp at h⟩
 |(i,x)::xs,vs,h=>by
  simp only[ja,Option.bind_eq_some_iff,Option.some.injEq]at h;obtain⟨v,h1,l,h2,rfl⟩:=h;obtain⟨e1,e2⟩:=pZ hg hf h2;refine⟨by simpa using e1,fun k q hk=>?_⟩;cases k with
  |zero=>simp at hk;subst hk;exact⟨_,rfl,bp hg hf h1⟩
  |succ k=>simp at hk;obtain⟨v',q1,q2⟩:=e2 k q hk;exact⟨v',by simpa using q1,q2⟩
theorem u5 (hg:hY E μ) (hf:dj μ f a.tmps) {x:Option Operand} {v:Option Value} (h:pR E f x=some v):tH μ v (x.map a.eval):=by
 cases x with
 |none=>simp only[pR,Option.some.injEq]at h;subst h;trivial
 |some x=>
  simp only[pR,Option.bind_eq_some_iff,Option.some.injEq]at h;obtain⟨u,h1,rfl⟩:=h;exact bp hg hf h1
theorem lH {v:Value} {p:Nat×Nat} (h:jC v=some p):v= .pointer (some ⟨p.1,p.2,none⟩):=by
 unfold jC at h;split at h<;>simp at h;subst h;rfl
theorem EV {v:Value} {n:Int} (h:Rw v=some n):∃k,v= .int k n:=by
 unfold Rw at h;split at h<;>simp at h;subst h;exact⟨_,rfl⟩
theorem yg {v:Value} {n:Bool} (h:Nv v=some n):v= .bool n:=by
 unfold Nv at h;split at h<;>simp at h;subst h;rfl
theorem NK {v:Value} {n:List Value} (h:Yq v=some n):∃cs:Array Value,v= .agg cs∧n=cs.toList:=by
 unfold Yq at h;split at h<;>simp at h;subst h;exact⟨_,rfl,rfl⟩
theorem CW {op:UnOp} {a v:Value} (h:fb (Op.unary op a)=some v) (ha:scalar a=true):scalar v=true:=by
 cases op<;>cases a<;>simp[scalar]at ha<;>simp only[Op.unary,Op.intArith,Op.intBits,fb,stuck,Pure.pure,Option.some.injEq]at h<;>first|(subst h;rfl)|cases h
theorem lI (hE:bF P E) {kt:TypeId} {kd:TypeDesc} (h:E.desc kt=some kd) (hs:jb kd=true) (e:Bool) (n:Nat) (k:Value):fJ P (Instr.checkKey e (n+1) kt k) ():=by
 intro w;cases kd<;>simp[jb]at hs<;>simp[Instr.checkKey,aL hE h w]
set_option maxHeartbeats 1000000 in
theorem qR (hE:bF P E) (hg:hY E μ) (hf:dj μ f a.tmps) {o:Oper} {v:Value} (h:aZ E f o=some v):∃v',ar μ v v'∧fJ P (execOp a.eval o) (.value v'):=by
 obtain⟨dst,op,type,pos,after,guard⟩:=o;cases op
 case move x=>simp only[aZ]at h;exact⟨_,bp hg hf h,fun w=>rfl⟩
 case assign x=>simp only[aZ]at h;exact⟨_,bp hg hf h,fun w=>rfl⟩
 case pick c x y=>
  simp only[aZ,Option.bind_eq_some_iff]at h;obtain⟨cv,h1,b,h2,h3⟩:=h;have e:=yg h2;subst e;have hc:=(bp hg hf h1).ay rfl;cases b with
  |true=>exact⟨_,bp hg hf h3,fun w=>by simp[execOp,hc,asBool]⟩
  |false=>exact⟨_,bp hg hf h3,fun w=>by simp[execOp,hc,asBool]⟩
 case build t parts=>
  simp only[aZ,Option.bind_eq_some_iff]at h;obtain⟨ps,h1,h2⟩:=h;obtain⟨v',q1,q2⟩:=RA hE h2 (pZ hg hf h1);refine⟨v',q1,fun w=>?_⟩;have e:(parts.map fun(i,x)=>(i,a.eval x))=(parts.toList.map fun p=>(p.1,a.eval p.2)).toArray:=by
   apply Array.ext';simp
  simp only[execOp,Sem.run_bind];rw[e,q2 w];rfl
 case nilCheck x=>
  simp only[aZ,Option.bind_eq_some_iff]at h;obtain⟨u,h1,h2⟩:=h;have hr:=bp hg hf h1;generalize hq:a.eval x=q at hr;unfold nH at h2;split at h2
  ·simp only[Option.some.injEq]at h2;subst h2;cases hr with
   |lit hh=>simp[aB]at hh
   |ptr hb=>exact⟨_,.ptr hb,fun w=>by simp[execOp,hq]⟩
  ·simp only[Option.some.injEq]at h2;subst h2;cases hr with
   |lit hh=>simp[aB]at hh
   |func h1 h2 h3 h4=>exact⟨_,.func h1 h2 h3 h4,fun w=>by simp[execOp,hq]⟩
  ·simp only[Option.some.injEq]at h2;subst h2;cases hr with
   |lit hh=>simp[aB]at hh
   |yield hb=>exact⟨_,.yield hb,fun w=>by simp[execOp,hq]⟩
  ·cases h2
 case binOp op t x y yt=>
  simp only[aZ,Option.bind_eq_some_iff]at h;obtain⟨u,h1,u2,h2,h3⟩:=h;obtain⟨v',q1,q2⟩:=Yz hE h3 (bp hg hf h1) (bp hg hf h2);refine⟨v',q1,fun w=>?_⟩;simp only[execOp];rw[Sem.run_bind,q2 w];rfl
 case unOp op t x=>
  simp only[aZ,Option.bind_eq_some_iff,aj]at h;obtain⟨u,h1,hs,h2⟩:=h;have e:=(bp hg hf h1).ay hs;refine⟨v,.qP μ (CW h2 hs),fun w=>?_⟩;simp only[execOp,Sem.run_bind,e,wi (P:=P) h2 w,Result.andThen_ok,Sem.run_pure]
 case convert s d x=>
  simp only[aZ,Option.bind_eq_some_iff]at h;obtain⟨u,h1,h2⟩:=h;obtain⟨v',q1,q2⟩:=Ve hE h2 (bp hg hf h1);refine⟨v',q1,fun w=>?_⟩;simp only[execOp,Sem.run_bind,q2 w,Result.andThen_ok,Sem.run_pure]
 case makeInterface t x=>
  simp only[aZ,Option.bind_eq_some_iff]at h;obtain⟨d,hd,u,h1,h2⟩:=h;refine⟨.iface t (a.eval x),?_,fun w=>?_⟩
  ·split at h2
   ·cases h2
   ·simp only[Option.some.injEq]at h2;subst h2;exact .iface (bp hg hf h1)
  ·simp only[execOp,Sem.run_bind,Instr.makeInterface,aL hE hd w,Result.andThen_ok];split at h2
   ·cases h2
   ·cases d<;>first|rfl |(exfalso;simp at*)
 case makeFunc fn first captured=>
  simp only[aZ]at h;split at h
  ·simp only[Option.bind_eq_some_iff,Option.some.injEq]at h;obtain⟨x,h1,y,h2,rfl⟩:=h;have r1:=k9 hg hf h1;have r2:=k9 hg hf h2;refine⟨.func (.func _) (first.map a.eval) (captured.map a.eval),.func ?_ ?_ ?_ ?_,fun w=>?_⟩
   ·have:=r1.length;simpa using this
   ·intro i u u' hu U7;obtain⟨u2,k1,k2⟩:=r1.get (i:=i) (v:=u) (by simpa using hu);have:u'=u2:=by
     simp only[Array.getElem?_map]at U7;simp only[List.getElem?_map,Array.getElem?_toList]at k1;rw[U7]at k1;exact Option.some.inj k1
    subst this;exact k2
   ·have:=r2.length;simpa using this
   ·intro i u u' hu U7;obtain⟨u2,k1,k2⟩:=r2.get (i:=i) (v:=u) (by simpa using hu);have:u'=u2:=by
     simp only[Array.getElem?_map]at U7;simp only[List.getElem?_map,Array.getElem?_toList]at k1;rw[U7]at k1;exact Option.some.inj k1
    subst this;exact k2
   ·simp[execOp,Instr.makeFunc]
  ·cases h
 case slice t x lo hi mx=>
  simp only[aZ,Option.bind_eq_some_iff]at h;obtain⟨u,h1,l,h2,hh,h3,m,h4,h5⟩:=h;obtain⟨v',q1,q2⟩:=K4 hE h5 (bp hg hf h1) (u5 hg hf h2) (u5 hg hf h3) (u5 hg hf h4);refine⟨v',q1,fun w=>?_⟩;simp only[execOp,Sem.run_bind,q2 w,Result.andThen_ok,Sem.run_pure]
 case fieldAddr s x fd=>
  simp only[aZ,Option.bind_eq_some_iff]at h;obtain⟨d,hd,u,h1,p,h2,h3⟩:=h;have e:=lH h2;subst e;obtain⟨m,hb,ex⟩:=(bp hg hf h1).jd;split at h3
  ·simp only[Option.bind_eq_some_iff,aj,ba,Option.some.injEq]at h3;obtain⟨fl,h4,n,h5,h6,rfl⟩:=h3;refine⟨.pointer (some ⟨m.r,m.s+(p.2+fl.offset),none⟩),.ptr hb,fun w=>?_⟩;have hn:n≠0:=by omega
   simp[execOp,Instr.fieldAt,aL hE hd w,h4,ex,Instr.sureAddr,fieldPlace,gC hE h5 w,hn,ij,Nat.add_assoc]
  ·cases h3
 case field t x fd=>
  simp only[aZ,Option.bind_eq_some_iff]at h;obtain⟨d,hd,u,h1,cs,h2,h3⟩:=h;obtain⟨ca,e,rfl⟩:=NK h2;subst e;obtain⟨cs',ex,hr⟩:=(bp hg hf h1).fF;split at h3
  ·simp only[Option.bind_eq_some_iff]at h3;obtain⟨fl,h4,h5⟩:=h3;obtain⟨v',q1,q2⟩:=CS hE (μ:=μ) h5 hr;have e:cs'.toList.toArray=cs':=by simp
   rw[e]at q2;refine⟨v',q1,fun w=>?_⟩;simp only[execOp,Instr.field,Sem.run_bind,aL hE hd w,Result.andThen_ok,h4,ex,asAgg,Sem.run_pure,q2 w]
  ·cases h3
 case indexAddr t x ix=>
  simp only[aZ,Option.bind_eq_some_iff]at h;obtain⟨u,h1,u2,h2,h3⟩:=h;obtain⟨v',q1,q2⟩:=EU hE h3 (bp hg hf h1) (bp hg hf h2);refine⟨v',q1,fun w=>?_⟩;simp only[execOp,Sem.run_bind,q2 w,Result.andThen_ok,Sem.run_pure]
 case index t x ix=>
  simp only[aZ,Option.bind_eq_some_iff]at h;obtain⟨u,h1,u2,h2,h3⟩:=h;obtain⟨v',q1,q2⟩:=RB hE h3 (bp hg hf h1) (bp hg hf h2);refine⟨v',q1,fun w=>?_⟩;simp only[execOp,Sem.run_bind,q2 w,Result.andThen_ok,Sem.run_pure]
 case extract t ix=>
  simp only[aZ,Option.bind_eq_some_iff]at h;obtain⟨u,h1,h2⟩:=h;split at h2
  ·obtain⟨oI,ex,hr⟩:=(bp hg hf h1).KW;obtain⟨v',k1,k2⟩:=hr.get h2;refine⟨v',k2,fun w=>?_⟩;have k1':oI[ix]? =some v':=by simpa using k1
   simp[execOp,Instr.extract,ex,k1']
  ·cases h2
 case lookup t x ix ok=>
  simp only[aZ,Option.bind_eq_some_iff]at h;obtain⟨d,hd,m,h1,k,h2,h3⟩:=h;split at h3
  ·rename_i kt elem;simp only[Option.bind_eq_some_iff,aj,Bool.and_eq_true,Option.some.injEq]at h3;obtain⟨kd,j5,z,hz,⟨⟨s1,s2⟩,s3⟩,rfl⟩:=h3;have e1:a.eval x= .map none:=by
    have:=bp hg hf h1;generalize a.eval x=q at this;cases this;rfl
   have e2:=(bp hg hf h2).ay s2;have abV:∀w,(Instr.checkKey true 10000 kt k).run P w= .ok () w:=fun w=>lI hE j5 s1 true 9999 k w;have K5:∀w,(Instr.findKey kt k []).run P w= .ok none w:=by
    intro w;simp[Instr.findKey,aL hE j5 w,Instr.findNow]
   refine⟨(if ok then .tuple #[z,.bool false]else z),?_,fun w=>?_⟩
   ·have sq:=ar.cF μ s3;cases ok with
    |true=>simp only[cond_true,if_true];exact .dQ (by simpa using aA.cons sq (.cons (.bool μ false) .nil))
    |false=>simpa using sq
   ·simp[execOp,Instr.lookup,aL hE hd w,e1,e2,abV w,K5 w,lG hE hz w]
  ·cases h3
 case call c=>
  simp only[aZ]at h;split at h
  ·rename_i b hb;simp only[Option.bind_eq_some_iff]at h;obtain⟨args,h1,h2⟩:=h;have hr:=k9 hg hf h1;obtain⟨v',q1,q2⟩:=NJ hE (ts:=c.argTypes) (args':=c.args.map a.eval) type (c.args.map fun | .const _=>true|_=>false) h2 (by simpa using hr);refine⟨v',q1,fun w=>?_⟩;simp only[execOp,resolve,hb,Sem.run_bind,Sem.run_pure,Result.andThen_ok,invoke];exact q2 w
  ·cases h
 all_goals(simp only[aZ]at h;cases h)
end
theorem dy (z:List Value):∀n,(a6 z n).length=n*z.length
 |0=>by simp[a6]
 |n+1=>by simp[a6,dy z n,Nat.add_mul];omega
theorem wj (z:List Value):∀(n i:Nat),i<n*z.length→(a6 z n)[i]? =z[i % z.length]?
 |0,i,h=>by simp at h
 |n+1,i,h=>by
  simp only[a6];by_cases hi:i<z.length
  ·rw[List.getElem?_append_left hi,Nat.mod_eq_of_lt hi]
  ·rw[List.getElem?_append_right om,wj z n (i - z.length) (by rw[Nat.add_mul]at h;omega)]
   congr 1
   rw[←Nat.mod_eq_sub_mod om]
theorem aA.a6 {μ:bx} {z:List Value} (h:aA μ z z):∀n,aA μ (a6 z n) (a6 z n)
 |0=>.nil
 |n+1=>h.append (h.a6 n)
theorem tI (z:Array Value) (n:Nat) (hz:0<z.size):((Array.range (n*z.size)).map (z[· % z.size]!)).toList=a6 z.toList n:=by
 apply List.ext_getElem?;intro i;by_cases hi:i<n*z.size
 ·rw[wj z.toList n i (by simpa using hi)];have hm:i % z.size<z.size:=Nat.mod_lt _ hz;simp[hi,hm]
 ·have h1:(a6 z.toList n)[i]? =none:=by
   rw[List.getElem?_eq_none_iff,dy];simpa using hi
  rw[h1];simp;omega
section
variable {P:Program} {E:Env} {μ:bx} {f:AF} {a:Act}
structure NL (P:Program) (μ:bx) (s:Sem Next) (md:Made) (hd:tw) (o':Obj) (n:Nat) (hv:Nat→Value):Prop where
 run:∀w:World,s.run P w= .ok (.value (hv w.heap.size)) {w with heap:=w.heap.push o'}
 val:∀(a7:bx) b r,a7 b=some ⟨r,0,n⟩→ar a7 (hd.val b) (hv r)
 obj:∀(a7:bx) h base b r,μ.le a7→iV a7 h base b ⟨r,0,n⟩ (md.obj b) o'
theorem nK {cs cs':List Value} (hr:aA μ cs cs') (e:TypeId) (a7:bx) (h:ab) (base b r:Nat) (hle:μ.le a7) (f di bd:Nat) (rest:Array Value) (c:Array Value) (hc:c.toList=cs'++rest.toList):
 iV a7 h base b ⟨r,0,c.size⟩ (.cells cs f di bd) (.cells c e (0,0)):=by
 have hl:=hr.length;have hs:c.size=cs'.length+rest.size:=by
  have:=congrArg List.length hc;simpa using this
 refine .cells rfl (by simp only;omega) (fun _=>NB _) fun _ i v hv=>?_;obtain⟨v',h1,h2⟩:=hr.get hv;refine⟨v',?_,h2.mono hle⟩;have hi:=(List.getElem?_eq_some_iff.1 h1).1;rw[←Array.getElem?_toList,hc,Nat.zero_add,List.getElem?_append_left hi];exact h1
theorem oJ (hE:bF P E) (hg:hY E μ) (hf:dj μ f a.tmps) {o:Oper} {md:Made} {hd:tw} (h:bw E f o=some (md,hd)):
 ∃o' n hv,NL P μ (execOp a.eval o) md hd o' n hv:=by
 obtain⟨dst,op,type,pos,after,guard⟩:=o;cases op
 case alloc t=>
  simp only[bw,Option.bind_eq_some_iff,Option.some.injEq,Prod.mk.injEq]at h;obtain⟨z,hz,rfl,rfl⟩:=h;have sq:=(ar.cF μ (hE.zero t z hz).2).cells;refine⟨.cells z.cells t (0,0),z.cells.size,fun r=>.pointer (some ⟨r,0,none⟩),fun w=>?_,fun a7 b r hb=>?_,fun a7 h base b r hle=>?_⟩
  ·simp[execOp,Instr.alloc,lG hE hz w,newVar,newRow]
  ·have:=ar.ptr (o:=0) hb;simpa[tw.val]using this
  ·exact nK sq t a7 h base b r hle _ _ _ #[] z.cells (by simp)
 case box t x=>
  simp only[bw,Option.bind_eq_some_iff,Option.some.injEq,Prod.mk.injEq]at h;obtain⟨v,hv,rfl,rfl⟩:=h;have hr:=(bp hg hf hv).cells;refine⟨.cells (a.eval x).cells t (0,0),(a.eval x).cells.size,fun r=>.pointer (some ⟨r,0,none⟩),fun w=>?_,fun a7 b r hb=>?_,fun a7 h base b r hle=>?_⟩
  ·simp[execOp,Instr.box,newVar,newRow]
  ·have:=ar.ptr (o:=0) hb;simpa[tw.val]using this
  ·exact nK hr t a7 h base b r hle _ _ _ #[] _ (by simp)
 case buildSlice t len parts=>
  simp only[bw,Option.bind_eq_some_iff]at h;obtain⟨d,Hv,ps,h1,h2⟩:=h;split at h2
  ·rename_i elem;simp only[Option.bind_eq_some_iff,aj,Bool.and_eq_true,aW,beq_iff,Option.some.injEq,Prod.mk.injEq]at h2;obtain⟨n,hn,z,hz,⟨hk,j6⟩,cs,h3,rfl,rfl⟩:=h2;have hp:=pZ hg hf h1;have sq:=(ar.cF μ (hE.zero elem z hz).2).cells
   let gE:Array Value:=(a6 z.cells.toList len).toArray
   obtain⟨cs',q1,q2⟩:=tG (μ:=μ) (place':=fun i=>some (i*n,n)) (fun _ _ h=>h) (cells':=gE) (ps':=parts.toList.map fun p=>(p.1,a.eval p.2)) h3 (by simpa[gE]using sq.a6 len) hp.1 hp.2;have gB:cs.length=len*n:=by
    have:∀{ps:List (Nat×Value)} {c r:List Value},kO (fun i=>some (i*n,n)) c ps=some r→r.length=c.length:=by
     intro ps
     induction ps with
     |nil=>intro c r h;simp only[kO,Option.some.injEq]at h;subst h;rfl
     |cons p ps ih=>
      intro c r h;simp only[kO,Option.bind_eq_some_iff,aj]at h;obtain⟨q,_,_,c1,h4,h5⟩:=h;rw[ih h5,(dG h4).2.1]
    rw[this h3,dy];simp[j6]
   refine⟨.cells cs' elem (0,0),cs'.size,fun r=>.slice (some ⟨r,0,none⟩) len len,fun w=>?_,fun a7 b r hb=>?_,fun a7 h base b r hle=>?_⟩
   ·have e:(parts.map fun(i,x)=>(i,a.eval x))=(parts.toList.map fun p=>(p.1,a.eval p.2)).toArray:=by
     apply Array.ext';simp
    have Vf:len*n=0→∀g:Nat→Value,(Array.range (len*n)).map g=gE:=by
     intro h0 g;apply Array.ext';have:(a6 z.cells.toList len)=[]:=by
      apply List.eq_nil_of_length_eq_zero;rw[dy];simpa[j6]using h0
     simp[h0,gE,this]
    have Vg:len*n≠0→(Array.range (len*n)).map (z.cells[· % z.cells.size]!)=gE:=by
     intro h0;apply Array.ext';have CX:0<z.cells.size:=by
      rw[j6];exact Nat.pos_of_ne_zero fun e=>h0 (by rw[e];simp)
     have:=tI z.cells len CX;rw[j6]at this;simp only[gE];rw[←this,j6]
    unfold execOp;simp only[Sem.run_bind,Instr.buildSlice,aL hE Hv w,Result.andThen_ok,gC hE hn w];rw[if_neg om];by_cases h0:len*n=0
    ·rw[if_pos h0];simp only[Sem.run_bind,Sem.run_pure,Result.andThen_ok];rw[Vf h0,e,q1];rfl
    ·rw[if_neg h0];simp only[Sem.run_bind,Sem.run_pure,Result.andThen_ok,lG hE hz w];rw[Vg h0,e,q1];rfl
   ·have:=ar.slice (o:=0) (z:=n) hb (Nat.le_refl len) (Nat.le_refl len) (fun h=>h) (by simp only;have:=q2.length;simp at this;omega);simpa[tw.val]using this
   ·exact nK q2 elem a7 h base b r hle _ _ _ #[] cs' (by simp)
  ·cases h2
 case makeMap t r=>
  cases r with
  |none=>
   simp only[bw,Option.some.injEq,Prod.mk.injEq]at h;obtain⟨rfl,rfl⟩:=h;refine⟨.map #[] 0,0,fun r=>.map (some r),fun w=>?_,fun a7 b r hb=>?_,fun a7 h base b r hle=>?_⟩
   ·simp[execOp,Instr.makeMap]
   ·exact .map hb
   ·exact .map (by simpa using cJ.nil)
  |some r=>simp only[bw]at h;cases h
 case makeSlice t l c=>
  simp only[bw,Option.bind_eq_some_iff]at h;obtain⟨d,Hv,lv,h1,cv,h2,l1,h3,c1,h4,h5⟩:=h;obtain⟨k1,e1⟩:=EV h3;subst e1;obtain⟨k2,e2⟩:=EV h4;subst e2;have el:=(bp hg hf h1).ay rfl;have ec:=(bp hg hf h2).ay rfl;split at h5
  ·rename_i elem;simp only[Option.bind_eq_some_iff,aj,Bool.and_eq_true,beq_iff,decide_eq_true_eq,Option.some.injEq,Prod.mk.injEq]at h5;obtain⟨n,hn,bytes,hb,z,hz,⟨⟨⟨j6,mP⟩,K3⟩,mQ⟩,rfl,rfl⟩:=h5;obtain⟨ti,X3,QY⟩:=CQ hE hb;have sq:=(ar.cF μ (hE.zero elem z hz).2).cells;obtain⟨ln,rfl⟩:=Int.eq_ofNat_of_zero_le mP;obtain⟨cn,rfl⟩:=Int.eq_ofNat_of_zero_le (show 0≤c1 by omega);have abW:ln≤cn:=by omega
   have abX:(cn+1)*(bytes+1)≤1099511627776:=by
    have:(((cn+1)*(bytes+1):Nat):Int)≤1099511627776:=by push_cast;exact mQ
    omega
   have Uh:cn+1≤1099511627776:=Nat.le_trans (Nat.le_mul_of_pos_right _ om) abX;have Ry:bytes*cn≤1099511627776:=by
    have:bytes*cn≤(cn+1)*(bytes+1):=by rw[Nat.mul_comm];exact Nat.mul_le_mul om om
    omega
   let gE:Array Value:=(a6 z.cells.toList cn).toArray
   refine⟨.cells gE elem (0,0),gE.size,fun r=>.slice (some ⟨r,0,none⟩) ln cn,fun w=>?_,fun a7 b r hb=>?_,fun a7 h base b r hle=>?_⟩
   ·have wl:IntKind.i64.wrap (ln:Int)=ln:=IntWalk.i64_in _ om;have wc:IntKind.i64.wrap (cn:Int)=cn:=IntWalk.i64_in _ om;have nt:(decide ((cn:Int)<0)||decide ((ti.bytes:Int)*(cn:Int)>2 ^ 48))=false:=by
     rw[X3];have:((bytes*cn:Nat):Int)≤1099511627776:=by omega
     simp only[Bool.or_eq_false_iff,decide_eq_false_iff_not];refine⟨om,?_⟩;have e:(2:Int) ^ 48=281474976710656:=by decide
     rw[e]
     push_cast at this
     omega
    have Vf:cn*n=0→∀g:Nat→Value,(Array.range (cn*n)).map g=gE:=by
     intro h0 g;apply Array.ext';have:(a6 z.cells.toList cn)=[]:=by
      apply List.eq_nil_of_length_eq_zero;rw[dy];simpa[j6]using h0
     simp[h0,gE,this]
    have Vg:cn*n≠0→(Array.range (cn*n)).map (z.cells[· % z.cells.size]!)=gE:=by
     intro h0;apply Array.ext';have CX:0<z.cells.size:=by
      rw[j6];exact Nat.pos_of_ne_zero fun e=>h0 (by rw[e];simp)
     have:=tI z.cells cn CX;rw[j6]at this;simp only[gE];rw[←this,j6]
    unfold execOp;simp only[Sem.run_bind,Instr.makeSlice,aL hE Hv w,Result.andThen_ok,el,ec,asInt,asIntOf,Sem.run_pure,QY w,wl,wc,nt];rw[if_neg (by simp;omega)];simp only[Sem.run_bind,run_askRoom,Result.andThen_ok,gC hE hn w,Int.toNat_natCast];by_cases h0:cn*n=0
    ·rw[if_pos h0];simp only[Sem.run_bind,Sem.run_pure,Result.andThen_ok];rw[Vf h0];rfl
    ·rw[if_neg h0];simp only[Sem.run_bind,Sem.run_pure,Result.andThen_ok,lG hE hz w];rw[Vg h0];rfl
   ·have tj:gE.size=cn*n:=by simp[gE,dy,j6]
    by_cases e:ln=cn
    ·subst e;have:=ar.slice (o:=0) (z:=n) hb (Nat.le_refl ln) (Nat.le_refl ln) (fun h=>h) (by simp only;omega);simpa[tw.val]using this
    ·have:=ar.slice (o:=0) (z:=n) (len:=ln) (cap:=ln+1) (cap':=cn) hb om abW (fun h=>by omega) (by simp only;omega);simpa[tw.val,e,bZ]using this
   ·have Vh:a6 z.cells.toList cn=a6 z.cells.toList ln++a6 z.cells.toList (cn - ln):=by
     have:∀a b,a6 z.cells.toList (a+b)=a6 z.cells.toList a++a6 z.cells.toList b:=by
      intro a b
      induction a with
      |zero=>simp[M.a6]
      |succ a ih=>rw[Nat.succ_add];simp[M.a6,ih]
     rw[←this];congr 1;omega
    exact nK (sq.a6 ln) elem a7 h base b r hle _ _ _ (a6 z.cells.toList (cn - ln)).toArray gE (by simp[gE,Vh])
  ·cases h5
 case range t x=>
  simp only[bw,Option.bind_eq_some_iff]at h;obtain⟨d,Hv,v,h1,h2⟩:=h;split at h2
  ·rename_i s;simp only[Option.some.injEq,Prod.mk.injEq]at h2;obtain⟨rfl,rfl⟩:=h2;have ex:=(bp hg hf h1).ay rfl;refine⟨.stringIter s 0,0,fun r=>.pointer (some ⟨r,0,none⟩),fun w=>?_,fun a7 b r hb=>?_,fun a7 h base b r hle=>.jB rfl⟩
   ·simp[execOp,Instr.range,aL hE Hv w,ex]
   ·have:=ar.ptr (o:=0) hb;simpa[tw.val]using this
  ·simp only[Option.some.injEq,Prod.mk.injEq]at h2;obtain⟨rfl,rfl⟩:=h2;have ex:a.eval x= .map none:=by
    have:=bp hg hf h1;generalize a.eval x=q at this;cases this;rfl
   refine⟨.mapIter none 0 #[] 0,0,fun r=>.pointer (some ⟨r,0,none⟩),fun w=>?_,fun a7 b r hb=>?_,fun a7 h base b r hle=>.nb rfl⟩
   ·simp[execOp,Instr.range,aL hE Hv w,ex]
   ·have:=ar.ptr (o:=0) hb;simpa[tw.val]using this
  ·cases h2
 all_goals(simp only[bw]at h;cases h)
end
theorem run_getObj_map {P:Program} {w:World} {r:Nat} {o:Obj} (h:w.heap[r]? =some o) (ho:∀c e f,o≠ .cells c e f):(getObj r).run P w= .ok o w:=by
 unfold getObj;simp only[Sem.run,h]
theorem ko {μ:bx} {kd:TypeDesc} {k:Value}:∀{es bU:List MapEntry} {i:Nat} {r:Option (Nat×Value)},cJ μ es bU→Instr.findNow kd k es i=some r→
 ∃r',Instr.findNow kd k bU i=some r'∧(r=none→r'=none)∧(∀j v,r=some (j,v)→∃v',r'=some (j,v')∧ar μ v v')
 |[],bU,i,r,h,hr=>by
  cases h with
  |nil=>simp only[Instr.findNow,Option.some.injEq]at hr;subst hr;exact⟨none,rfl,fun _=>rfl,fun j v h=>by cases h⟩
 |e::es,bU,i,r,h,hr=>by
  cases h with
  |cons hk hv hb t=>
   rename_i e' bU;have hs:∀b,Instr.sameNow kd k e.key=some b→e'.key=e.key:=by
    intro b hs;have:scalar e.key=true:=by
     unfold Instr.sameNow at hs;split at hs
     ·rename_i h2;rw[h2];rfl
     ·rename_i h2;rw[h2];rfl
     ·rename_i h2;rw[h2];rfl
     ·cases hs
    exact hk.ay this
   simp only[Instr.findNow]at hr ⊢;split at hr
   ·rename_i hq;rw[hs _ hq,hq];simp only[Option.some.injEq]at hr;subst hr;exact⟨_,rfl,(fun h=>by cases h),fun j v h=>(by cases h;exact⟨_,rfl,hv⟩)⟩
   ·rename_i hq;rw[hs _ hq,hq];exact ko t hr
   ·cases hr
theorem run_loadCells {P:Program} {w:World} {a:Addr}:∀(n i:Nat) (acc:Array Value) (l:List Value),l.length=n→(∀(k:Nat) v,l[k]? =some v→w.cell? (a.add (i+k))=some v)→(loadCellsFrom a i n acc).run P w= .ok (acc++l.toArray) w
 |0,i,acc,l,h,_=>by
  have:l=[]:=List.eq_nil_of_length_eq_zero h;subst this;simp[loadCellsFrom]
 |n+1,i,acc,[],h,_=>by simp at h
 |n+1,i,acc,v::l,h,hc=>by
  have h0:=hc 0 v rfl;have ih:=run_loadCells (P:=P) n (i+1) (acc.push v) l (by simpa using h) (fun k u hu=>by have:=hc (k+1) u (by simpa using hu);rw[←this];congr 2;omega);simp only[Nat.add_zero]at h0;simp only[loadCellsFrom,Sem.run_bind,run_load,h0,Result.andThen_ok,ih];simp
section
variable {P:Program} {E:Env} {μ:bx} {f:AF} {a:Act} {base B:Nat} {h:ab} {w:World}
theorem bt.Bo (H:bt E base B μ h w) {b o n:Nat} {m:MT} (hb:μ b=some m) {l:List Value} (hr:M.an h b o n=some l):
 ∃l',aA μ l l'∧∀(i:Nat) v,l'[i]? =some v→w.cell? ⟨m.r,m.s+o+i,none⟩=some v:=by
 obtain⟨h1,h2⟩:=H.an hb hr;have key:∀(l:List Value) (k:Nat),(∀(i:Nat) v,l[i]? =some v→∃v',w.cell? ⟨m.r,m.s+o+k+i,none⟩=some v'∧ar μ v v')→∃l',aA μ l l'∧∀(i:Nat) v,l'[i]? =some v→w.cell? ⟨m.r,m.s+o+k+i,none⟩=some v:=by
  intro l
  induction l with
  |nil=>intro k _;exact⟨[],.nil,fun i v h=>by simp at h⟩
  |cons v l ih=>
   intro k hl;obtain⟨v',q1,q2⟩:=hl 0 v rfl;obtain⟨l',r1,r2⟩:=ih (k+1) fun i u hu=>by
    obtain⟨u',k1,k2⟩:=hl (i+1) u (by simpa using hu);exact⟨u',by rw[←k1];congr 2;omega,k2⟩
   refine⟨v'::l',.cons q2 r1,fun i u hu=>?_⟩;cases i with
   |zero=>simp at hu;subst hu;simpa using q1
   |succ i=>
    simp at hu;rw[←r2 i u hu];congr 2;omega
 obtain⟨l',r1,r2⟩:=key l 0 (by simpa using h2);exact⟨l',r1,by simpa using r2⟩
theorem p4 (hE:bF P E) {t:TypeId} {agg:Bool} {n:Nat} (hs:fa E t=some (agg,n)) {r o:Nat} {l':List Value} (hl:l'.length=n) (hc:∀(i:Nat) v,l'[i]? =some v→w.cell? ⟨r,o+i,none⟩=some v) {v':Value}
 (hv:c8 agg l'=some v'):(loadVar t ⟨r,o,none⟩).run P w= .ok v' w:=by
 obtain⟨d,k1,k2,k3,k4⟩:=wg hs;unfold loadVar;simp only[Sem.run_bind,JN hE k1 w,Result.andThen_ok,k2];cases agg with
 |true=>
  simp only[c8,Option.some.injEq]at hv;subst hv;simp only[if_true,Sem.run_bind,gC hE (k3 rfl) w,Result.andThen_ok,loadCells];rw[run_loadCells n 0 #[] l' hl (fun k v hv=>by rw[ij];simpa using hc k v hv)];simp
 |false=>
  have:=k4 rfl;subst this
  match l',hl with
  |[u],_=>
   simp only[c8,Option.some.injEq]at hv;subst hv;have:=hc 0 u rfl;simp only[Nat.add_zero]at this;simp[this]
theorem u6 (hE:bF P E) (hf:dj μ f a.tmps) (H:bt E base B μ h w) {o:Oper} {q:RQ} {v:Value} (hq:b7 E f o=some q) (hv:q.run h=some v):
 ∃v',ar μ v v'∧(execOp a.eval o).run P w= .ok (.value v') w:=by
 have hg:hY E μ:=H.dp;obtain⟨dst,op,type,pos,after,guard⟩:=o;cases op
 case load t x=>
  simp only[b7,Option.bind_eq_some_iff,Option.some.injEq]at hq;obtain⟨u,h1,p,h2,⟨agg,n⟩,h3,rfl⟩:=hq;have e:=lH h2;subst e;obtain⟨m,hb,ex⟩:=(bp hg hf h1).jd;simp only[RQ.run,Option.bind_eq_some_iff]at hv;obtain⟨l,h4,h5⟩:=hv;obtain⟨l',r1,r2⟩:=H.Bo hb h4;obtain⟨v',q1,q2⟩:=j4 h5 r1;refine⟨v',q2,?_⟩;have hl:l'.length=n:=by rw[←r1.length];exact(H.an hb h4).1
  simp only[execOp,Instr.loadAt,Sem.run_bind,ex,Instr.sureAddr,Sem.run_pure,Result.andThen_ok];rw[p4 hE h3 hl r2 q1];rfl
 case lookup t x ix ok=>
  simp only[b7,Option.bind_eq_some_iff]at hq;obtain⟨d,hd,mv,h1,k,h2,h3⟩:=hq;split at h3
  ·rename_i kt elem r;simp only[Option.bind_eq_some_iff,aj,Bool.and_eq_true,Option.some.injEq]at h3;obtain⟨kd,j5,z,hz,⟨⟨s1,s2⟩,s3⟩,rfl⟩:=h3;obtain⟨m,hb,ex⟩:=(bp hg hf h1).jZ;have ek:=(bp hg hf h2).ay s2;simp only[RQ.run,Option.bind_eq_some_iff]at hv;obtain⟨⟨es,clock⟩,h4,h5⟩:=hv;obtain⟨o1,o2,k1,k2,k3⟩:=H.obj r m hb;have hm:h.get r=some (.map es clock):=by
    unfold ff at h4;split at h4<;>simp at h4;obtain⟨rfl,rfl⟩:=h4;assumption
   rw[hm]at k1;cases k1;cases k3 with
   |map hs=>
    rename_i bU;have qS:=run_getObj_map (P:=P) k2 (fun _ _ _=>by simp);simp only[kD,Option.bind_eq_some_iff,Option.some.injEq]at h5;obtain⟨fr,h6,h7⟩:=h5;obtain⟨Nd,q1,q2,q3⟩:=ko hs h6;have sq:=ar.cF μ s3;have K5:(Instr.findKey kt k bU.toList).run P w= .ok Nd w:=by
     simp only[Instr.findKey,Sem.run_bind,aL hE j5 w,Result.andThen_ok,q1,Sem.run_pure]
    have oz:=lI (P:=P) hE j5 s1 bU.isEmpty 9999 k w;have fin:∀(u u':Value) (b:Bool),ar μ u u'→ar μ (bif ok then .tuple #[u,.bool b]else u) (if ok=true then .tuple #[u',.bool b]else u'):=by
     intro u u' b hu;cases ok with
     |true=>simp only[cond_true,if_true];exact .dQ (by simpa using aA.cons hu (.cons (.bool μ b) .nil))
     |false=>simpa using hu
    cases fr with
    |none=>
     have e:=q2 rfl;subst e;simp only at h7;subst h7;refine⟨_,fin z z false sq,?_⟩;simp only[execOp,Instr.lookup,Sem.run_bind,aL hE hd w,Result.andThen_ok,ex,ek,qS,Sem.run_pure,oz,K5,lG hE hz w]
    |some jv=>
     obtain⟨v',e,hr⟩:=q3 jv.1 jv.2 rfl;subst e;simp only at h7;subst h7;refine⟨_,fin jv.2 v' true hr,?_⟩;simp only[execOp,Instr.lookup,Sem.run_bind,aL hE hd w,Result.andThen_ok,ex,ek,qS,Sem.run_pure,oz,K5]
  ·cases h3
 case call c=>
  simp only[b7]at hq;split at hq
  ·rename_i t ts CY Vi;simp only[Option.bind_eq_some_iff]at hq;obtain⟨d,hd,args,h1,h2⟩:=hq;split at h2
   ·rename_i kt et r rest;simp only[Option.some.injEq]at h2;subst h2;have hr:=k9 hg hf h1;cases ni:c.args.toList.map a.eval with
    |nil=>rw[ni]at hr;cases hr
    |cons u us=>
     rw[ni]at hr;cases hr with
     |cons hx _=>
      obtain⟨m,hb,rfl⟩:=hx.jZ;simp only[RQ.run,Option.bind_eq_some_iff,Option.some.injEq]at hv;obtain⟨⟨es,clock⟩,h4,rfl⟩:=hv;obtain⟨o1,o2,k1,k2,k3⟩:=H.obj r m hb;have hm:h.get r=some (.map es clock):=by
       unfold ff at h4;split at h4<;>simp at h4;obtain⟨rfl,rfl⟩:=h4;assumption
      rw[hm]at k1;cases k1;cases k3 with
      |map hs=>
       rename_i bU;have qS:=run_getObj_map (P:=P) k2 (fun _ _ _=>by simp);have e0:(c.args.map a.eval)[0]? =some (.map (some m.r)):=by
        have:(c.args.map a.eval).toList= .map (some m.r)::us:=by simpa using ni
        rw[←Array.getElem?_toList,this];rfl
       have e1:c.argTypes[0]? =some t:=by rw[←Array.getElem?_toList,Vi];rfl
       refine⟨goInt bU.size,?_,?_⟩
       ·have:=hs.length;simp only[Array.length_toList]at this;rw[this];exact .int μ _ _
       ·simp only[execOp,resolve,CY,Sem.run_bind,Sem.run_pure,Result.andThen_ok,invoke,builtin,Builtin.len_,e0,e1,aL hE hd w,qS]
   ·cases h2
  ·cases hq
 all_goals(simp only[b7]at hq;cases hq)
end
theorem CZ {v:Value} (h:ie v=true):v.oneCell'=true:=by cases v<;>simp[ie]at h<;>rfl
theorem lJ {P:Program} {r off:Nat} {e:TypeId} {fr:Nat×Nat}:∀(vs:List Value) (i:Nat) (w:World) (c:Array Value),pW fr c.size→w.heap[r]? =some (.cells c e fr)→vs.all ie=true→off+i+vs.length≤c.size→
 ∃w' c',(storeCells ⟨r,off,none⟩ vs i).run P w= .ok () w'∧CN w r (.cells c' e fr) w'∧c'.size=c.size∧∀k,c'[k]? =if off+i≤k∧k<off+i+vs.length then vs[k - (off+i)]? else c[k]?
 |[],i,w,c,_,hw,_,_=>by
  refine⟨w,c,by simp[storeCells],⟨rfl,rfl,rfl,rfl,fun k=>?_⟩,rfl,fun k=>?_⟩
  ·by_cases e:k=r
   ·subst e;rw[if_pos rfl,hw]
   ·rw[if_neg e]
  ·rw[if_neg (by simp)]
 |v::vs,i,w,c,X4,hw,lK,hb=>by
  simp only[List.all_cons,Bool.and_eq_true]at lK;simp only[List.length_cons]at hb;have yh:w.cell? ⟨r,off+i,none⟩=some (c[off+i]' om):=by
   simp only[World.cell?,hw];simp
  have HQ:w.frozen? ⟨r,off+i,none⟩=false:=by
   have:=X4.at (off+i) om;simp only[World.frozen?,hw];simpa using this
  let w1:=w.setCell ⟨r,off+i,none⟩ v
  have fo:∀k,w1.heap[k]? =if k=r then some (.cells (c.setIfInBounds (off+i) v) e fr)else w.heap[k]? :=by
   intro k;simp only[w1,World.setCell,Array.getElem?_modify];by_cases ek:k=r
   ·subst ek;rw[if_pos rfl,if_pos rfl,hw];simp
   ·rw[if_neg (fun h=>ek h.symm),if_neg ek]
  obtain⟨w',c',q1,q2,q3,q4⟩:=lJ (P:=P) (off:=off) vs (i+1) w1 (c.setIfInBounds (off+i) v) (by simpa using X4) (by rw[fo,if_pos rfl]) lK.2 (by simp;omega);refine⟨w',c',?_,⟨q2.tape,q2.os,q2.output,by rw[q2.size];simp[w1,World.setCell],fun k=>?_⟩,by rw[q3];simp,fun k=>?_⟩
  ·simp only[storeCells,Sem.run_bind,ij,run_store P w _ v .plain (CZ lK.1),yh,HQ];simp only[Bool.false_eq_true,if_false,Result.andThen_ok];exact q1
  ·rw[q2.get];by_cases ek:k=r
   ·rw[if_pos ek,if_pos ek]
   ·rw[if_neg ek,if_neg ek,fo,if_neg ek]
  ·rw[q4 k];by_cases h1:off+(i+1)≤k∧k<off+(i+1)+vs.length
   ·rw[if_pos h1,if_pos (by simp;omega)];have:k - (off+i)=(k - (off+(i+1)))+1:=by omega
    rw[this,List.getElem?_cons_succ]
   ·rw[if_neg h1];by_cases h2:k=off+i
    ·subst h2;rw[if_pos (by simp),Array.getElem?_setIfInBounds_self_of_lt (show off+i<c.size by omega)];simp
    ·rw[if_neg (by simp;omega),Array.getElem?_setIfInBounds_ne om]
theorem Bp (n:Nat):∀(rounds c:Nat),256≤c→Builtin.growBy n rounds c≤c*2 ^ rounds
 |0,c,_=>by simp[Builtin.growBy]
 |k+1,c,h=>by
  simp only[Builtin.growBy];split
  ·exact Nat.le_mul_of_pos_right _ (Nat.pow_pos om)
  ·have h1:c+(c+768) / 4≤c*2:=by omega
   have:=Bp n k (c+(c+768) / 4) om
   calc _≤(c+(c+768) / 4)*2 ^ k:=this
    _≤(c*2)*2 ^ k:=Nat.mul_le_mul_right _ h1
    _=c*2 ^ (k+1):=by rw[Nat.pow_succ,Nat.mul_assoc,Nat.mul_comm 2]
theorem nextslicecap_le {n c:Nat} (h:c<n):Builtin.nextslicecap n c≤16*n:=by
 unfold Builtin.nextslicecap;split
 ·omega
 ·split
  ·omega
  ·have:=Bp n 4 c om;omega
section
variable {P:Program} {E:Env} {μ:bx} {f:AF} {a:Act} {base B:Nat} {h:ab} {w:World}
theorem EW {x x':Value} {n:Nat} (h:nG x=some n) (hr:ar μ x x'):fJ P (Builtin.lenOf x') n:=by
 unfold nG at h;split at h
 ·simp only[Option.some.injEq]at h;subst h;intro w;cases hr<;>rfl
 ·simp only[Option.some.injEq]at h;subst h;cases hr;intro w;rfl
 ·cases h
theorem oK (H:bt E base B μ h w) {size n L:Nat} {x x':Value} {l:List Value} (h1:fE h size n x=some l) (hr:ar μ x x') (hL:nG x=some L) (hn:n≤L):
 ∃l',aA μ l l'∧∀d,(Builtin.firstCells size n x').run P {w with drawn:=d}= .ok l'.toArray {w with drawn:=d}:=by
 unfold fE at h1;split at h1
 ·rename_i b o z len cap;cases hr with
  |lit hh=>simp[aB]at hh
  |slice hb k1 k2 k3 k4=>
   rename_i cap' m;obtain⟨l',r1,r2⟩:=H.Bo hb h1;refine⟨l',r1,fun d=>?_⟩;simp only[Builtin.firstCells,loadCells];have hl:l'.length=n*size:=by rw[←r1.length];exact(H.an hb h1).1
   rw[run_loadCells (n*size) 0 #[] l' hl (fun k v hv=>by rw[ij];have:=r2 k v hv;simpa[World.cell?]using this)];simp
  |df=>
   simp only[nG,Option.some.injEq]at hL;have oA:n=0:=by omega
   subst oA;unfold M.an at h1;simp only[Option.bind_eq_some_iff,bo]at h1;obtain⟨cs,_,_,rfl⟩:=h1;refine⟨[],by simpa using aA.nil,fun d=>?_⟩;simp[Builtin.firstCells,loadCells,loadCellsFrom]
 ·rename_i len cap;simp only[Option.some.injEq]at h1;subst h1;cases hr with
  |lit hh=>exact⟨[],.nil,fun d=>by simp[Builtin.firstCells]⟩
 ·rename_i s;simp only[Option.some.injEq]at h1;subst h1;cases hr.ay rfl;refine⟨_,aA.cF μ (by
   rw[List.all_eq_true];intro v hv;obtain⟨u,_,rfl⟩:=List.mem_map.1 hv;rfl),fun d=>?_⟩
  simp only[Builtin.firstCells,Sem.run_pure]
  congr 1
  apply Array.ext';simp[List.extract_eq_take_drop]
 ·cases h1
theorem u7 (H:bt E base B μ h w) {b o:Nat} {m:MT} (hb:μ b=some m) {cs cs' vs oI:List Value} {h':ab} (gA:h.rd b=some cs) (jG:dJ cs o vs=some cs') (K6:h.wr base b cs'=some h')
 (hr:aA μ vs oI) (lK:vs.all ie=true):∃w',(storeCells ⟨m.r,m.s+o,none⟩ oI).run P w= .ok () w'∧Step E base B μ h w μ h' w':=by
 obtain⟨c,e,fr,k1,k2,k3,k4,k5⟩:=H.read hb gA;obtain⟨f,bd,bE,_,_,_⟩:=JK K6;have X4:pW fr c.size:=by rw[k2];exact k4 bE
 obtain⟨s1,s2,s3⟩:=dG jG;have hl:=hr.length;have EX:oI.all ie=true:=by
  rw[List.all_eq_true]at lK ⊢;intro v' pD;obtain⟨i,hi,rfl⟩:=List.mem_iff_getElem.1 pD;have h0:vs[i]? =some (vs[i]' om):=by simp
  obtain⟨u,q1,q2⟩:=hr.get h0;have:oI[i]? =some oI[i]:=by simp[hi]
  rw[this]at q1;cases q1;exact q2.ie (lK _ (List.getElem_mem _))
 obtain⟨w',c',q1,q2,q3,q4⟩:=lJ (P:=P) oI 0 w c X4 k1 EX (off:=m.s+o) om;obtain⟨r,_,_,tj⟩:=rd_some gA;refine⟨w',q1,Step.wr H hb tj s2 K6 k1 q3 q2 fun i v hv=>?_⟩;rw[s3 i]at hv;rw[q4 (m.s+i)];by_cases hi:o≤i∧i<o+vs.length
 ·rw[if_pos hi]at hv;rw[if_pos om];obtain⟨v',z1,z2⟩:=hr.get hv;exact⟨v',by rw[←z1];congr 1;omega,z2⟩
 ·rw[if_neg hi]at hv;rw[if_neg om];exact k5 i v hv
end
section
variable {P:Program} {E:Env} {μ:bx} {f:AF} {a:Act} {base B:Nat} {h:ab} {w:World}
def AU (b:Option Addr) (k:Nat) (new:List Value):Sem Unit:=match b with|some a=>storeCells (a.add k) new|none=>pure ()
theorem p5 (z:Array Value) (n:Nat):(Builtin.zeroCells z n).size=n*z.size:=by simp[Builtin.zeroCells]
theorem oL (hE:bF P E) {st xt ty elem:TypeId} {xd:TypeDesc} {size bytes n len cap:Nat} {z0:Value} {base':Option Addr} {x':Value} {old new:List Value}
 (bR:E.desc st=some (.slice elem)) (RC:E.desc xt=some xd) (Nc:lB xd=false) (hs:E.size elem=some size) (Hw:E.bytes elem=some bytes) (hz:E.zero elem=some z0) (j6:z0.cells.size=size)
 (RD:fJ P (Builtin.lenOf x') n)
 (mG:∀d,(Builtin.firstCells size n x').run P {w with drawn:=d}= .ok new.toArray {w with drawn:=d}):
 (len+n≤cap→∀w',(AU base' (len*size) new).run P w= .ok () w'→(Builtin.append_ #[st,xt] ty #[.slice base' len cap,x']).run P w= .ok (.slice base' (len+n) cap) w')∧
 (cap<len+n→(len+n+1)*(bytes+1)≤1099511627776→(∀d,(Builtin.firstCells size len (.slice base' len cap)).run P {w with drawn:=d}= .ok old.toArray {w with drawn:=d})→∃dK rest,len+n≤dK∧rest.size=(dK - (len+n))*size∧
  (Builtin.append_ #[st,xt] ty #[.slice base' len cap,x']).run P w= .ok (.slice (some ⟨w.heap.size,0,none⟩) (len+n) dK) {w with heap:=w.heap.push (.cells (old.toArray++new.toArray++rest) elem (0,0)),drawn:=w.drawn+1}):=by
 obtain⟨ti,X3,QY⟩:=CQ hE Hw;have hw:({w with drawn:=w.drawn}:World)=w:=rfl;constructor
 ·intro AV w' NM;unfold Builtin.append_;simp only[List.getElem?_toArray,List.getElem?_cons_zero,List.getElem?_cons_succ,Sem.run_bind,aL hE bR w,aL hE RC w,Result.andThen_ok,gC hE hs w,Sem.run_pure];split
  ·simp[lB]at Nc
  simp only[Bool.false_eq_true,if_false,Sem.run_bind,RD w,Result.andThen_ok];rw[if_pos AV];have:=mG w.drawn;simp only[Bool.not_false,if_true,Sem.run_bind];rw[show(Builtin.firstCells size n x').run P w= .ok new.toArray w from this];cases base' with
  |none=>
   simp only[AU,Sem.run_pure]at NM;cases NM;simp
  |some a=>
   simp only[AU]at NM;simp[NM]
 ·intro YD mQ hold;have Ui:len+n+1≤1099511627776:=Nat.le_trans (Nat.le_mul_of_pos_right _ om) mQ;have NN:¬(((len+n:Nat):Int)>IntKind.i64.max):=by
   have e:IntKind.i64.max=9223372036854775807:=by decide
   rw[e];omega
  have fK:¬(Builtin.nextslicecap (len+n) cap*ti.bytes>2 ^ 48):=by
   have h1:=nextslicecap_le YD;have h2:Builtin.nextslicecap (len+n) cap*ti.bytes≤16*(len+n)*bytes:=by rw[X3];exact Nat.mul_le_mul_right _ h1
   have h3:16*(len+n)*bytes≤16*((len+n+1)*(bytes+1)):=by
    rw[Nat.mul_assoc];exact Nat.mul_le_mul_left _ (Nat.mul_le_mul om om)
   have e:(2:Nat) ^ 48=281474976710656:=by decide
   rw[e];omega
  let nc:=(Question.appendCap (len+n) cap elem).cut (w.tape w.drawn (Question.appendCap (len+n) cap elem))
  refine⟨nc,Builtin.zeroCells z0.cells (nc - (len+n)),?_,by rw[p5,j6],?_⟩
  ·simp only[nc,Question.cut];omega
  ·unfold Builtin.append_;simp only[List.getElem?_toArray,List.getElem?_cons_zero,List.getElem?_cons_succ,Sem.run_bind,aL hE bR w,aL hE RC w,Result.andThen_ok,gC hE hs w,Sem.run_pure];split
   ·simp[lB]at Nc
   simp only[Bool.false_eq_true,if_false,Sem.run_bind,RD w,Result.andThen_ok];rw[if_neg om];simp only[Sem.run_bind,QY w,Result.andThen_ok];rw[if_neg (fun hh=>NN hh.1)];simp only[Sem.run_bind,QY w,Result.andThen_ok];rw[if_neg fK];have ho:=hold (w.drawn+1);have hn:=mG (w.drawn+1);simp only[Sem.run_bind,run_choose,Question.forced,Bool.false_eq_true,if_false,Result.andThen_ok,QY _,run_askRoom,ho,hn,Bool.not_false,if_true,lG hE hz _];rfl
end
section
variable {P:Program} {E:Env} {μ:bx} {f:AF} {a:Act} {base B:Nat} {h:ab} {w:World}
def kF (P:Program) (E:Env) (base B:Nat) (μ:bx) (h:ab) (w:World) (s:Sem Value) (v:Value) (h':ab):Prop:=
 ∃a7 v' w',s.run P w= .ok v' w'∧ar a7 v v'∧Step E base B μ h w a7 h' w'
theorem u9 (H:bt E base B μ h w) {cs:List Value} {cs':List Value} (hr:aA μ cs cs') {rest:Array Value} {elem:TypeId} {size len dK:Nat} (hl:len≤dK) (hlen:cs.length=len*size) (EP:rest.size=(dK - len)*size) (d:Nat):
 ∃a7,ar a7 (fresh h cs size len).1 (.slice (some ⟨w.heap.size,0,none⟩) len dK)∧
  Step E base B μ h w a7 (fresh h cs size len).2 {w with heap:=w.heap.push (.cells (cs'.toArray++rest) elem (0,0)),drawn:=d}:=by
 have hs:(cs'.toArray++rest).size=dK*size:=by
  have:=hr.length;simp only[Array.size_append,List.size_toArray,EP,←this,hlen];rw[←Nat.add_mul];congr 1;omega
 have hd:=Step.drawn H d;have eP:=EO.mk' {w with drawn:=d} (.cells (cs'.toArray++rest) elem (0,0));have st:=Step.alloc hd.rel eP (dK*size) (o:=.cells cs h.size h.size 0) (fun cs f di bd hh=>by cases hh;exact⟨rfl,rfl⟩) (by
  have:=nK (base:=base) (b:=h.size) (r:=w.heap.size) hr elem (kl μ h.size ⟨w.heap.size,0,dK*size⟩) (h.push (.cells cs h.size h.size 0)) (fZ H.fresh) h.size h.size 0 rest (cs'.toArray++rest) (by simp);rw[hs]at this;exact this)
 refine⟨_,?_,hd.trans st⟩;have:=ar.slice (o:=0) (z:=size) (len:=len) (cap:=len+1) (cap':=dK) (bC μ h.size ⟨w.heap.size,0,dK*size⟩) om hl (fun h=>by omega) (by simp only;omega);simpa[fresh]using this
theorem AW {b o:Nat} {l:List Value} (hr:M.an h b o 0=some l):l=[]:=by
 unfold M.an at hr;simp only[Option.bind_eq_some_iff,bo]at hr;obtain⟨cs,_,_,rfl⟩:=hr;simp
set_option maxHeartbeats 1000000 in
set_option maxHeartbeats 1000000 in
theorem HR (hE:bF P E) (H:bt E base B μ h w) {st xt ty:TypeId} {s x s' x' v:Value} {h':ab} (ha:cX E base h st xt s x=some (v,h')) (hs:ar μ s s') (hx:ar μ x x'):
 kF P E base B μ h w (Builtin.append_ #[st,xt] ty #[s',x']) v h':=by
 unfold cX at ha;simp only[Option.bind_eq_some_iff]at ha;obtain⟨sd,bR,xd,RC,ha⟩:=ha;split at ha
 ·rename_i elem;simp only[Option.bind_eq_some_iff,aj,Bool.and_eq_true,Bool.not_eq_true',beq_iff]at ha;obtain⟨size,gB,bytes,Hw,z0,hz,n,hn,⟨Nc,j6⟩,ha⟩:=ha;have RD:=EW (P:=P) hn hx;have hxz:∀d,(Builtin.firstCells size 0 x').run P {w with drawn:=d}= .ok ([]:List Value).toArray {w with drawn:=d}:=by
   intro d;unfold nG at hn;split at hn
   ·cases hx with
    |lit hh=>
     unfold aB at hh;split at hh<;>simp_all[Builtin.firstCells]
    |slice=>simp[Builtin.firstCells,loadCells,loadCellsFrom]
    |df=>simp[Builtin.firstCells,loadCells,loadCellsFrom]
   ·cases hx with
    |lit hh=>simp[Builtin.firstCells]
   ·cases hn
  split at ha
  ·-- a nil slice
   have es:s'= .slice none 0 0:=by cases hs;rfl
   subst es;have rap:=fun new mG=>oL (w:=w) (ty:=ty) (base':=none) (cap:=0) (len:=0) (old:=[]) (new:=new) hE bR RC Nc gB Hw hz j6 RD mG;rw[bZ]at ha;split at ha
   ·rename_i h0;rw[beq_iff]at h0;subst h0;simp only[Option.some.injEq,Prod.mk.injEq]at ha;obtain⟨rfl,rfl⟩:=ha;exact⟨μ,_,w,(rap [] hxz).1 (Nat.le_refl _) w rfl,.lit rfl,.refl H⟩
   ·rename_i h0;rw[beq_iff]at h0;simp only[aj,aW,beq_iff,Option.bind_eq_some_iff,Option.some.injEq]at ha;obtain⟨mQ,new,mG,hl,ha⟩:=ha;obtain⟨xl,r1,r2⟩:=oK (P:=P) H mG hx hn (Nat.le_refl _);obtain⟨dK,rest,k1,k2,k3⟩:=(rap xl r2).2 om (by simpa using mQ) (fun d=>by simp[Builtin.firstCells]);obtain⟨a7,q1,q2⟩:=u9 (elem:=elem) H r1 (rest:=rest) (by simpa using k1) hl (by simpa using k2) (w.drawn+1);simp only[Nat.zero_add]at k3 ha;rw[ha]at q1 q2;refine⟨a7,_,_,k3,q1,?_⟩;simpa using q2
  ·rename_i b o z len cap;rw[bZ]at ha;split at ha
   ·-- nothing is appended
    rename_i h0;rw[beq_iff]at h0;subst h0;simp only[Option.some.injEq,Prod.mk.injEq]at ha;obtain⟨rfl,rfl⟩:=ha;have fin:∀(a':Addr) (cap':Nat),s'= .slice (some a') len cap'→len≤cap'→kF P E base B μ h w (Builtin.append_ #[st,xt] ty #[s',x']) (.slice (some ⟨b,o,some z⟩) len cap) h:=by
     intro a' cap' e K3;subst e;have ra:=(oL (w:=w) (ty:=ty) (base':=some a') (cap:=cap') (len:=len) (old:=[]) hE bR RC Nc gB Hw hz j6 RD hxz).1 om w (by simp[AU,storeCells]);exact⟨μ,_,w,ra,hs,.refl H⟩
    generalize hv:Value.slice (some ⟨b,o,some z⟩) len cap=v at hs;cases hs with
    |slice hb k1 k2 k3 k4=>cases hv;exact fin _ _ rfl k2
    |df=>cases hv;exact fin _ _ rfl (Nat.le_refl _)
    |_=>cases hv<;>simp[aB]at*
   ·rename_i h0;rw[beq_iff]at h0;simp only[aj,Bool.and_eq_true,aW,beq_iff,Option.bind_eq_some_iff]at ha;obtain⟨⟨hzz,mQ⟩,old,hold,new,mG,hl,ha⟩:=ha;subst hzz;obtain⟨xl,r1,r2⟩:=oK (P:=P) H mG hx hn (Nat.le_refl _)
    -- the elder cells
    have YE:∃AX,aA μ old AX∧(∀d,(Builtin.firstCells z len s').run P {w with drawn:=d}= .ok AX.toArray {w with drawn:=d}):=
     oK (P:=P) H (x:=.slice (some ⟨b,o,some z⟩) len cap) (x':=s') hold hs rfl (Nat.le_refl _)
    obtain⟨AX,o1,o2⟩:=YE;have YF:old.length=len*z:=by
     unfold M.an at hold;simp only[Option.bind_eq_some_iff,bo]at hold;obtain⟨cs,_,h3,rfl⟩:=hold;simp at h3 ⊢;omega
    have NO:aA μ (old++new) (AX++xl):=o1.append r1;have JO:(old++new).length=(len+n)*z:=by rw[List.length_append,YF,hl,Nat.add_mul]
    have Uj:∀(a':Addr) (cap':Nat),s'= .slice (some a') len cap'→cap'<len+n→∃dK rest,len+n≤dK∧rest.size=(dK - (len+n))*z∧
     (Builtin.append_ #[st,xt] ty #[s',x']).run P w= .ok (.slice (some ⟨w.heap.size,0,none⟩) (len+n) dK) {w with heap:=w.heap.push (.cells ((AX++xl).toArray++rest) elem (0,0)),drawn:=w.drawn+1}:=by
     intro a' cap' e hc;subst e;obtain⟨dK,rest,q1,q2,q3⟩:=(oL (w:=w) (ty:=ty) (base':=some a') (cap:=cap') (len:=len) (old:=AX) hE bR RC Nc gB Hw hz j6 RD r2).2 hc mQ o2;refine⟨dK,rest,q1,q2,?_⟩;rw[q3];simp
    rw[bZ]at ha;split at ha
    ·-- no room
     rename_i b6;rw[beq_iff]at b6;subst b6;simp only[Option.some.injEq]at ha;have fin:∀(a':Addr) (cap':Nat),s'= .slice (some a') cap cap'→cap'<cap+n→kF P E base B μ h w (Builtin.append_ #[st,xt] ty #[s',x']) v h':=by
      intro a' cap' e hc;obtain⟨dK,rest,q1,q2,q3⟩:=Uj a' cap' e hc;obtain⟨a7,p1,p2⟩:=u9 (elem:=elem) H NO (rest:=rest) q1 JO q2 (w.drawn+1);rw[ha]at p1 p2;exact⟨a7,_,_,q3,p1,p2⟩
     generalize hv:Value.slice (some ⟨b,o,some z⟩) cap cap=sv at hs;cases hs with
     |slice hb k1 k2 k3 k4=>cases hv;exact fin _ _ rfl (by have:=k3 rfl;omega)
     |df=>cases hv;exact fin _ _ rfl om
     |_=>cases hv<;>simp[aB]at*
    ·-- the last block of a family goes on
     rename_i b6;rw[beq_iff]at b6;simp only[Option.bind_eq_some_iff,aj,Bool.and_eq_true,aW,beq_iff,Option.some.injEq,Prod.mk.injEq]at ha;obtain⟨cs,tj,⟨f,di,bd⟩,nJ,⟨⟨eG,YG⟩,lK⟩,rfl,rfl⟩:=ha;simp only at eG YG;subst YG;obtain⟨dv,NP⟩:∃t,t=(bif Nat.beq (o+len*z) cs.length then bd else h.size):=⟨_,rfl⟩;simp only
     rw[←NP];have yd:∀x,x<h.size→dv≤x→bd≤x:=by
      intro x hx h7;cases Na:Nat.beq (o+len*z) cs.length<;>rw[Na]at NP<;>simp only[cond_true,cond_false]at NP<;>omega
     have Uk:dv<h.size→o+len*z=cs.length:=by
      intro h7;cases Na:Nat.beq (o+len*z) cs.length<;>rw[Na]at NP<;>simp only[cond_true,cond_false]at NP
      ·omega
      ·exact beq_iff.1 Na
     have K7:∀mt:MT,mt.s+0+(len+n)*z≤mt.n→∀RE,len+n≤RE→mt.s+0+RE*z≤mt.n→
      ar (kl μ h.size mt) (.slice (some ⟨h.size,0,some z⟩) (len+n) (len+n+1)) (.slice (some ⟨mt.r,mt.s+0,none⟩) (len+n) RE):=by
      intro mt _ RE hc AV;exact .slice (bC μ h.size mt) om hc (fun h=>by omega) AV
     have JP:∀(a':Addr) (cap':Nat) (m:MT),μ di=some m→s'= .slice (some a') len cap'→cap'<len+n→kF P E base B μ h w (Builtin.append_ #[st,xt] ty #[s',x']) (.slice (some ⟨h.size,0,some z⟩) (len+n) (len+n+1)) ((h.cE f h.size dv).push (.cells (old++new) f 0 0)):=by
      intro a' cap' m hb e hc;obtain⟨dK,rest,q1,q2,q3⟩:=Uj a' cap' e hc;have abY:((AX++xl).toArray++rest).size=dK*z:=by
       have:=NO.length;simp only[Array.size_append,List.size_toArray,q2,←this,JO];rw[←Nat.add_mul];congr 1;omega
      let mt:MT:=⟨w.heap.size,0,dK*z⟩
      have hle:dK*z≥(len+n)*z:=Nat.mul_le_mul_right _ q1
      have st:=Step.ext (w':={w with heap:=w.heap.push (.cells ((AX++xl).toArray++rest) elem (0,0)),drawn:=w.drawn+1}) H dv yd hb nJ eG (cs:=cs) (new:=old++new) mt (by simp) rfl rfl rfl
       ⟨(AX++xl).toArray++rest,elem,(0,0),by simp[mt],NB _,abY,by simp only[mt];omega,fun i v hv=>by
        obtain⟨v',z1,z2⟩:=NO.get hv;refine⟨v',?_,z2⟩;have hi:=(List.getElem?_eq_some_iff.1 z1).1;simp only[mt,Nat.zero_add];rw[←Array.getElem?_toList,Array.toList_append,List.getElem?_append_left (by simpa using hi)];exact z1⟩ tj
       (fun r hr bH=>by simp only[mt]at bH;simp only[Array.getElem?_push];rw[if_neg om]) H.low (.inl (Nat.le_refl _))
      refine⟨_,_,_,q3,?_,st⟩;have:=K7 mt (by simp only[mt];omega) dK q1 (by simp only[mt];omega);simpa[mt]using this
     generalize hv:Value.slice (some ⟨di,o,some z⟩) len cap=sv at hs;cases hs with
     |slice hb k1 k2 k3 k4=>
      rename_i b1 o1' z1 RF YH cap' m;cases hv;by_cases AV:len+n≤cap'
      ·-- in place
       obtain⟨c,e,fr,w1,w2,w3,w4,w5⟩:∃c e fr,w.heap[m.r]? =some (.cells c e fr)∧c.size=m.n∧m.s+cs.length≤m.n∧(base≤di→pW fr m.n)∧∀(i:Nat) v,cs[i]? =some v→∃v',c[m.s+i]? =some v'∧ar μ v v':=by
        unfold M.an at hold;simp only[Option.bind_eq_some_iff]at hold;obtain⟨cs2,gA,_⟩:=hold;obtain⟨_,_,_,h9⟩:=rd_some gA;rw[tj]at h9;cases h9;exact H.read hb gA
       have Ul:=H.dU di m _ hb nJ;simp only at Ul;have hbt:base≤di:=by omega
       have X4:pW fr c.size:=by rw[w2];exact w4 hbt
       have EX:xl.all ie=true:=by
        rw[List.all_eq_true]at lK ⊢;intro v' pD;obtain⟨i,hi,rfl⟩:=List.mem_iff_getElem.1 pD;have ae8:=r1.length;have h0:new[i]? =some (new[i]' om):=by simp
        obtain⟨u,q1,q2⟩:=r1.get h0;have:xl[i]? =some xl[i]:=by simp[hi]
        rw[this]at q1;cases q1;exact q2.ie (lK _ (List.getElem_mem _))
       have AB:xl.length=n*z:=by rw[←r1.length];exact hl
       have hmul:(len+n)*z=len*z+n*z:=Nat.add_mul _ _ _;have iz:(len+n)*z≤cap'*z:=Nat.mul_le_mul_right _ AV;obtain⟨w',c',q1,q2,q3,q4⟩:=lJ (P:=P) (off:=m.s+o+len*z) xl 0 w c X4 w1 EX om;have ra:=(oL (w:=w) (ty:=ty) (base':=some ⟨m.r,m.s+o,none⟩) (cap:=cap') (len:=len) (old:=AX) hE bR RC Nc gB Hw hz j6 RD r2).1 AV w' (by simp only[AU,ij];exact q1)
       let mt:MT:=⟨m.r,m.s+o,m.n⟩
       have YI:∀(i:Nat) v,old[i]? =some v→∃v',c[m.s+o+i]? =some v'∧ar μ v v':=by
        intro i v hv;unfold M.an at hold;simp only[Option.bind_eq_some_iff,bo]at hold;obtain⟨cs2,gA,h3,rfl⟩:=hold;obtain⟨_,_,_,h9⟩:=rd_some gA;rw[tj]at h9;cases h9;have hi:=(List.getElem?_eq_some_iff.1 hv).1;simp at hi;rw[List.getElem?_take,if_pos om,List.getElem?_drop]at hv;obtain⟨v',z1,z2⟩:=w5 _ v hv;exact⟨v',by rw[Nat.add_assoc];exact z1,z2⟩
       have st:=Step.ext (w':=w') H dv yd hb nJ eG (cs:=cs) (new:=old++new) mt (by rw[q2.size];exact Nat.le_refl _) q2.tape q2.os q2.output
        ⟨c',e,fr,by rw[q2.get,if_pos rfl],w4 hbt,by rw[q3,w2],by simp only[mt];omega,fun i v hv=>by
         simp only[mt];rw[q4];by_cases hi:i<old.length
         ·rw[List.getElem?_append_left hi]at hv;obtain⟨v',z1,z2⟩:=YI i v hv;refine⟨v',?_,z2⟩;rw[if_neg om];exact z1
         ·rw[List.getElem?_append_right om]at hv;have hi2:=(List.getElem?_eq_some_iff.1 hv).1;obtain⟨v',z1,z2⟩:=r1.get hv;refine⟨v',?_,z2⟩;rw[if_pos om,←z1];congr 1;omega⟩ tj
        (fun r hr bH=>by rw[q2.get,if_neg bH]) (H.own di m hb hbt)
        (.inr ⟨rfl,rfl,fun h7=>by have:=Uk h7;simp only[mt];omega,fun c2 e2 fr2 hh=>by
         rw[w1]at hh;cases hh;exact⟨c',by rw[q2.get,if_pos rfl],q3,fun h7 i hi=>by have:=Uk h7;rw[q4,if_neg om]⟩⟩)
       refine⟨_,_,w',ra,?_,st⟩;have:=K7 mt (by simp only[mt];omega) cap' AV (by simp only[mt];omega);simpa[mt]using this
      ·exact JP _ _ m hb rfl om
     |df hb=>cases hv;obtain⟨m0,hb⟩:=hb om;exact JP _ _ _ hb rfl om
     |_=>cases hv<;>simp[aB]at*
  ·cases ha
 ·cases ha
end
theorem CN.set (w:World) (r:Nat) (o:Obj) (hr:r<w.heap.size):CN w r o {w with heap:=w.heap.setIfInBounds r o}:=
 ⟨rfl,rfl,rfl,by simp,fun k=>by
  by_cases e:k=r
  ·subst e;rw[if_pos rfl,Array.getElem?_setIfInBounds_self_of_lt hr]
  ·rw[if_neg e,Array.getElem?_setIfInBounds_ne (fun h=>e h.symm)]⟩
theorem cM {P:Program} {w:World} {r:Nat} {o1 o:Obj} (h:w.heap[r]? =some o1) (ho:∀c e f,o1≠ .cells c e f):(setObj r o).run P w= .ok () {w with heap:=w.heap.setIfInBounds r o}:=by
 unfold setObj;simp only[Sem.run,h]
section
variable {P:Program} {E:Env} {μ:bx} {f:AF} {a:Act} {base B:Nat} {h:ab} {w:World}
theorem NQ (hE:bF P E) (H:bt E base B μ h w) {dt ty:TypeId} {d s d' s' v:Value} {h':ab} (ha:Nw E base h dt d s=some (v,h')) (hd:ar μ d d') (hs:ar μ s s') (ts:Array TypeId) (ht:ts[0]? =some dt):
 kF P E base B μ h w (Builtin.copy_ ts ty #[d',s']) v h':=by
 unfold Nw at ha;simp only[Option.bind_eq_some_iff]at ha;obtain⟨dd,Um,ha⟩:=ha;split at ha
 ·rename_i elem ad CE afa;simp only[Option.bind_eq_some_iff]at ha;obtain⟨size,gB,sl,pF,ha⟩:=ha;have RD:=EW (P:=P) pF hs;have hd':∃X5 cap',d'= .slice X5 CE cap':=by cases hd<;>exact⟨_,_,rfl⟩
  obtain⟨X5,cap',rfl⟩:=hd';have run:∀(cells:List Value) (w':World),(Builtin.firstCells size (Nat.min sl CE) s').run P w= .ok cells.toArray w→(AU X5 0 cells).run P w= .ok () w'→(Builtin.copy_ ts ty #[.slice X5 CE cap',s']).run P w= .ok (goInt (Nat.min sl CE)) w':=by
   intro cells w' h1 h2;unfold Builtin.copy_;simp only[ht,List.getElem?_toArray,List.getElem?_cons_zero,List.getElem?_cons_succ,Sem.run_bind,aL hE Um w,Result.andThen_ok,RD w,gC hE gB w,h1];cases X5 with
   |none=>simp only[AU,Sem.run_pure]at h2;cases h2;simp
   |some aa=>
    simp only[AU]at h2;have:aa.add 0=aa:=by simp[Addr.add]
    rw[this]at h2;simp[h2]
  rw[bZ]at ha;split at ha
  ·rename_i h0;rw[beq_iff]at h0;simp only[Option.some.injEq,Prod.mk.injEq]at ha;obtain⟨rfl,rfl⟩:=ha;have tJ:(Builtin.firstCells size (Nat.min sl CE) s').run P w= .ok ([]:List Value).toArray w:=by
    rw[h0];unfold nG at pF;split at pF
    ·cases hs with
     |lit hh=>unfold aB at hh;split at hh<;>simp_all[Builtin.firstCells]
     |slice=>simp[Builtin.firstCells,loadCells,loadCellsFrom]
     |df=>simp[Builtin.firstCells,loadCells,loadCellsFrom]
    ·cases hs with
     |lit hh=>simp[Builtin.firstCells]
    ·cases pF
   have:=run [] w tJ (by cases X5<;>simp[AU,storeCells]);rw[h0]at this;exact⟨μ,_,w,this,.int μ _ _,.refl H⟩
  ·rename_i h0;rw[beq_iff]at h0;split at ha
   ·rename_i b o z;simp only[Option.bind_eq_some_iff,aj,Option.some.injEq,Prod.mk.injEq]at ha;obtain⟨cells,hc,lK,cs,gA,cs',jG,h1,K6,rfl,rfl⟩:=ha;obtain⟨cells',r1,r2⟩:=oK (P:=P) H hc hs pF (Nat.min_le_left _ _);cases hd with
    |slice hb k1 k2 k3 k4=>
     obtain⟨w',q1,q2⟩:=u7 (P:=P) H hb gA jG K6 r1 lK;exact⟨μ,_,w',run cells' w' (r2 w.drawn) (by simp only[AU,ij];exact q1),.int μ _ _,q2⟩
    |df=>exact absurd (Nat.min_zero _) h0
    |lit hh=>simp[aB]at hh
   ·cases ha
 ·cases ha
theorem K8 (hE:bF P E) (H:bt E base B μ h w) {t ty:TypeId} {x x' v:Value} {h':ab} (ha:se E base h t x=some (v,h')) (hx:ar μ x x') (ts:Array TypeId) (ht:ts[0]? =some t) (args:Array Value) (jD:args[0]? =some x')
 (hu:∃d,E.desc t=some d):kF P E base B μ h w (Builtin.clear_ ts ty args) v h':=by
 obtain⟨d,Um⟩:=hu;unfold se at ha;split at ha
 ·simp only[Option.some.injEq,Prod.mk.injEq]at ha;obtain⟨rfl,rfl⟩:=ha;have ex:x'= .map none:=by cases hx;rfl
  subst ex;refine⟨μ,.tuple #[],w,?_,ar.undef μ,.refl H⟩;unfold Builtin.clear_;simp only[ht,jD,Sem.run_bind,aL hE Um w,Result.andThen_ok];rfl
 ·simp only[Option.some.injEq,Prod.mk.injEq]at ha;obtain⟨rfl,rfl⟩:=ha;have ex:∃n c,x'= .slice none n c:=by cases hx;exact⟨_,_,rfl⟩
  obtain⟨n,c,rfl⟩:=ex;refine⟨μ,.tuple #[],w,?_,ar.undef μ,.refl H⟩;unfold Builtin.clear_;simp only[ht,jD,Sem.run_bind,aL hE Um w,Result.andThen_ok];rfl
 ·rename_i b o z n cap;have shape:∃a' cap',x'= .slice (some a') n cap':=by
   cases hx with
   |lit hh=>simp[aB]at hh
   |slice=>exact⟨_,_,rfl⟩
   |df=>exact⟨_,_,rfl⟩
  rw[bZ]at ha;split at ha
  ·rename_i h0;rw[beq_iff]at h0;subst h0;simp only[Option.some.injEq,Prod.mk.injEq]at ha;obtain⟨rfl,rfl⟩:=ha;obtain⟨a',cap',rfl⟩:=shape;refine⟨μ,.tuple #[],w,?_,ar.undef μ,.refl H⟩;unfold Builtin.clear_;simp only[ht,jD,Sem.run_bind,aL hE Um w,Result.andThen_ok];rfl
  ·rename_i h0;rw[beq_iff]at h0;simp only[Option.bind_eq_some_iff]at ha;obtain⟨d2,YJ,ha⟩:=ha;rw[Um]at YJ;cases YJ;split at ha
   ·rename_i elem;simp only[Option.bind_eq_some_iff,aj,Option.some.injEq,Prod.mk.injEq]at ha;obtain⟨zv,hz,lK,cs,gA,cs',jG,h1,K6,rfl,rfl⟩:=ha;have sq:=(ar.cF μ (hE.zero elem zv hz).2).cells;have EX:(a6 zv.cells.toList n).all ie=true:=by
     have:∀k,(a6 zv.cells.toList k).all ie=true:=by
      intro k
      induction k with
      |zero=>rfl
      |succ k ih=>simp only[M.a6,List.all_append,lK,ih,Bool.and_self]
     exact this n
    cases hx with
    |lit hh=>simp[aB]at hh
    |slice hb k1 k2 k3 k4=>
     rename_i cap' m;obtain⟨w',q1,q2⟩:=u7 (P:=P) H hb gA jG K6 (sq.a6 n) EX;refine⟨μ,.tuple #[],w',?_,ar.undef μ,q2⟩;have X1:(Builtin.zeroCells zv.cells n).toList=a6 zv.cells.toList n:=by
      unfold Builtin.zeroCells;by_cases CX:0<zv.cells.size
      ·exact tI zv.cells n CX
      ·have e0:zv.cells.size=0:=by omega
       have e1:(a6 zv.cells.toList n)=[]:=by
        apply List.eq_nil_of_length_eq_zero;rw[dy];simp[e0]
       rw[e1];simp[e0]
     obtain⟨n',rfl⟩:∃n',n=n'+1:=⟨n - 1,om⟩;unfold Builtin.clear_;simp only[ht,jD,Sem.run_bind,aL hE Um w,Result.andThen_ok,lG hE hz w,X1,q1,Sem.run_pure]
    |df=>exact absurd rfl h0
   ·cases ha
 ·rename_i r;simp only[aj,aW]at ha;obtain⟨bE,ha⟩:=ha;split at ha
  ·rename_i es clock hg;simp only[Option.some.injEq,Prod.mk.injEq]at ha;obtain⟨rfl,rfl⟩:=ha;obtain⟨m,hb,rfl⟩:=hx.jZ;obtain⟨o1,o2,k1,k2,k3⟩:=H.obj r m hb;rw[hg]at k1;cases k1;cases k3 with
   |map hs=>
    have st:=Step.put H hb bE hg rfl rfl (CN.set w m.r (.map #[] clock) (H.lt hb)) (.map (by simpa using cJ.nil));refine⟨μ,.tuple #[],_,?_,ar.undef μ,st⟩;unfold Builtin.clear_;simp only[ht,jD,Sem.run_bind,aL hE Um w,Result.andThen_ok,run_getObj_map (P:=P) k2 (fun _ _ _=>by simp),cM (P:=P) k2 (fun _ _ _=>by simp),Sem.run_pure]
  ·cases ha
 ·cases ha
theorem yi {kd:TypeDesc} {k:Value}:∀{es:List MapEntry} {i j:Nat} {v:Value},Instr.findNow kd k es i=some (some (j,v))→i≤j∧j<i+es.length
 |[],i,j,v,h=>by simp[Instr.findNow]at h
 |e::es,i,j,v,h=>by
  simp only[Instr.findNow]at h;split at h
  ·simp only[Option.some.injEq,Prod.mk.injEq]at h;obtain⟨rfl,_⟩:=h;simp
  ·have:=yi h;simp;omega
  ·cases h
theorem cJ.eraseIdx {l l':List MapEntry} (hs:cJ μ l l'):∀i,cJ μ (l.eraseIdx i) (l'.eraseIdx i):=by
 induction hs with
 |nil=>intro i;simpa using cJ.nil
 |cons hk hv hb t ih=>intro i;cases i with
  |zero=>simpa using t
  |succ i=>simpa using cJ.cons hk hv hb (ih i)
theorem cJ.append {l l' k k':List MapEntry} (hs:cJ μ l l') (hk:cJ μ k k'):cJ μ (l++k) (l'++k'):=by
 induction hs with
 |nil=>exact hk
 |cons a b c _ ih=>exact .cons a b c ih
theorem cJ.modify {l l':List MapEntry} (hs:cJ μ l l') {g g':MapEntry→MapEntry} (hg:∀e e',ar μ e.key e'.key→ar μ e.val e'.val→e.born=e'.born→ar μ (g e).key (g' e').key∧ar μ (g e).val (g' e').val∧(g e).born=(g' e').born):∀i,cJ μ (l.modify i g) (l'.modify i g'):=by
 induction hs with
 |nil=>intro i;simpa using cJ.nil
 |cons hk hv hb t ih=>intro i;cases i with
  |zero=>obtain⟨a,b,c⟩:=hg _ _ hk hv hb;simpa using cJ.cons a b c t
  |succ i=>simpa using cJ.cons hk hv hb (ih i)
theorem HS (hE:bF P E) (H:bt E base B μ h w) {t ty:TypeId} {mv k mv' k' v:Value} {h':ab} (ha:tz E base h t mv k=some (v,h')) (hm:ar μ mv mv') (hk:ar μ k k') (ts:Array TypeId) (ht:ts[0]? =some t):
 kF P E base B μ h w (Builtin.delete_ ts ty #[mv',k']) v h':=by
 unfold tz at ha;simp only[Option.bind_eq_some_iff]at ha;obtain⟨d,hd,ha⟩:=ha;split at ha
 ·rename_i kt et r;simp only[aj,Bool.and_eq_true,aW,Option.bind_eq_some_iff]at ha;obtain⟨⟨bE,xH⟩,kd,j5,bR,ha⟩:=ha;split at ha
  ·rename_i es clock hg;obtain⟨m,hb,rfl⟩:=hm.jZ;have ek:=hk.ay xH;subst ek;obtain⟨o1,o2,k1,k2,k3⟩:=H.obj r m hb;rw[hg]at k1;cases k1;cases k3 with
   |map hs=>
    rename_i bU;simp only[Option.bind_eq_some_iff]at ha;obtain⟨fr,HQ,ha⟩:=ha;obtain⟨Nd,q1,q2,q3⟩:=ko hs HQ;have K5:(Instr.findKey kt k' bU.toList).run P w= .ok Nd w:=by
     simp only[Instr.findKey,Sem.run_bind,aL hE j5 w,Result.andThen_ok,q1,Sem.run_pure]
    have oz:=lI (P:=P) hE j5 bR bU.isEmpty 9999 k' w;have qS:=run_getObj_map (P:=P) k2 (fun _ _ _=>by simp);have NR:=fun o=>cM (P:=P) (o:=o) k2 (fun _ _ _=>by simp);cases fr with
    |none=>
     have e:=q2 rfl;subst e;simp only[Option.some.injEq,Prod.mk.injEq]at ha;obtain⟨rfl,rfl⟩:=ha;have st:=Step.put H hb bE hg rfl rfl (CN.set w m.r (.map bU clock) (H.lt hb)) (.map hs);refine⟨μ,.tuple #[],_,?_,ar.undef μ,st⟩;unfold Builtin.delete_;simp only[ht,List.getElem?_toArray,List.getElem?_cons_zero,List.getElem?_cons_succ,Sem.run_bind,aL hE hd w,Result.andThen_ok,qS,oz,K5,NR,Sem.run_pure]
    |some jv=>
     obtain⟨v',e,hr⟩:=q3 jv.1 jv.2 rfl;subst e;simp only[Option.some.injEq,Prod.mk.injEq]at ha;obtain⟨rfl,rfl⟩:=ha;have aN:=(yi HQ).2;have hl:=hs.length;have st:=Step.put H hb bE hg rfl rfl (CN.set w m.r (.map (bU.eraseIdxIfInBounds jv.1) clock) (H.lt hb)) (.map (by
      have Vd:jv.1<bU.size:=by simp at hl aN;omega
      have:(bU.eraseIdxIfInBounds jv.1).toList=bU.toList.eraseIdx jv.1:=by
       simp[Array.eraseIdxIfInBounds,Vd]
      rw[this];exact hs.eraseIdx jv.1))
     refine⟨μ,.tuple #[],_,?_,ar.undef μ,st⟩;unfold Builtin.delete_;simp only[ht,List.getElem?_toArray,List.getElem?_cons_zero,List.getElem?_cons_succ,Sem.run_bind,aL hE hd w,Result.andThen_ok,qS,oz,K5,NR,Sem.run_pure]
  ·cases ha
 ·cases ha
end
section
variable {P:Program} {E:Env} {μ:bx} {f:AF} {a:Act} {base B:Nat} {h:ab} {w:World}
theorem EY (hE:bF P E) (H:bt E base B μ h w) {st xt ty:TypeId} {s x s' x' v:Value} {h':ab} (ha:kh E h st xt s x=some (v,h')) (hs:ar μ s s') (hx:ar μ x x'):
 kF P E base B μ h w (Builtin.append_ #[st,xt] ty #[s',x']) v h':=by
 unfold kh at ha;simp only[Option.bind_eq_some_iff]at ha;obtain⟨sd,bR,xd,RC,ha⟩:=ha;split at ha
 ·rename_i elem l;simp only[Option.bind_eq_some_iff,aj,Bool.and_eq_true,beq_iff,ba,aW,Option.some.injEq]at ha;obtain⟨size,gB,bytes,Hw,z0,hz,⟨⟨⟨⟨Nc,j6⟩,X6⟩,mP⟩,mQ⟩,ha⟩:=ha;have es:s'= .slice none 0 0:=by cases hs;rfl
  subst es;have ex:x'= .int .i64 l:=hx.ay rfl;subst ex;obtain⟨ti,X3,QY⟩:=CQ hE Hw;obtain⟨n,hn⟩:∃n:Nat,l=n:=⟨l.toNat,om⟩;subst hn;simp only[Int.toNat_natCast]at mP mQ ha;have Ui:n+1≤1099511627776:=Nat.le_trans (Nat.le_mul_of_pos_right _ om) mQ;have hwl:IntKind.i64.wrap (n:Int)=n:=IntWalk.i64_in _ om;have hmul:((n:Int)*(ti.bytes:Int))≤1099511627776:=by
   rw[X3];have h1:n*bytes≤(n+1)*(bytes+1):=Nat.mul_le_mul om om;have h2:=Int.ofNat_le.2 (Nat.le_trans h1 mQ)
   rwa [Int.natCast_mul]at h2
  have NN:¬(((0+n:Nat):Int)>IntKind.i64.max):=by
   have e:IntKind.i64.max=9223372036854775807:=by decide
   rw[e];omega
  have fK:¬(Builtin.nextslicecap (0+n) 0*ti.bytes>2 ^ 48):=by
   have h1:=nextslicecap_le (n:=0+n) (c:=0) om;have h2:Builtin.nextslicecap (0+n) 0*ti.bytes≤16*(0+n)*bytes:=by rw[X3];exact Nat.mul_le_mul_right _ h1
   have h3:16*(0+n)*bytes≤16*((n+1)*(bytes+1)):=by
    rw[Nat.mul_assoc];exact Nat.mul_le_mul_left _ (Nat.mul_le_mul om om)
   have e:(2:Nat) ^ 48=281474976710656:=by decide
   rw[e];omega
  have sq:=(ar.cF μ (hE.zero elem z0 hz).2).cells;have X1:Builtin.zeroCells z0.cells n=(a6 z0.cells.toList n).toArray:=by
   apply Array.ext';unfold Builtin.zeroCells;rw[tI z0.cells n om]
  have CU:¬n*size=0:=by
   intro e;rcases Nat.mul_eq_zero.1 e with e|e<;>omega
  let nc:=(Question.appendCap (0+n) 0 elem).cut (w.tape w.drawn (Question.appendCap (0+n) 0 elem))
  have Hy:n≤nc:=by simp only[nc,Question.cut];omega
  have run:(Builtin.append_ #[st,xt] ty #[.slice none 0 0,.int .i64 (n:Int)]).run P w= .ok (.slice (some ⟨w.heap.size,0,none⟩) n nc) {w with heap:=w.heap.push (.cells ((a6 z0.cells.toList n).toArray++Builtin.zeroCells z0.cells (nc - n)) elem (0,0)),drawn:=w.drawn+1}:=by
   unfold Builtin.append_;simp only[List.getElem?_toArray,List.getElem?_cons_zero,List.getElem?_cons_succ,Sem.run_bind,aL hE bR w,aL hE RC w,Result.andThen_ok,gC hE gB w,Sem.run_pure];split
   ·simp only[if_true,Sem.run_bind,asInt,asIntOf,Sem.run_pure,Result.andThen_ok,hwl];rw[if_neg (show¬((n:Nat):Int)<0 by omega)];simp only[Sem.run_bind,QY w,Result.andThen_ok]
    rw[if_neg (show¬((n:Int)*(ti.bytes:Int)>2 ^ 48) by have e:(2:Int) ^ 48=281474976710656:=by decide
                                                       rw[e];omega)]
    simp only[Sem.run_bind,Sem.run_pure,Result.andThen_ok,Int.toNat_natCast];rw[if_neg (show¬(0+n≤0) by omega)];simp only[Sem.run_bind,QY w,Result.andThen_ok];rw[if_neg (fun hh=>NN hh.1)];simp only[Sem.run_bind,QY w,Result.andThen_ok];rw[if_neg fK];simp only[Sem.run_bind,run_choose,Question.forced,Bool.false_eq_true,if_false,Result.andThen_ok,QY _,run_askRoom,Builtin.firstCells,Sem.run_pure,Bool.not_true,CU,lG hE hz _,X1];simp only[nc,Nat.zero_add,Array.empty_append];rfl
   ·rename_i bH;cases xd<;>simp[lB]at Nc;exact absurd rfl (bH _)
  have hlen:(a6 z0.cells.toList n).length=n*size:=by rw[dy];simp[j6]
  obtain⟨a7,q1,q2⟩:=u9 (elem:=elem) H (sq.a6 n) (rest:=Builtin.zeroCells z0.cells (nc - n)) Hy hlen (by rw[p5,j6]) (w.drawn+1);rw[ha]at q1 q2;exact⟨a7,_,_,run,q1,q2⟩
 ·cases ha
theorem HT (hE:bF P E) (H:bt E base B μ h w) {b:Builtin} {ts:Array TypeId} {args:List Value} {args':Array Value} {v:Value} {h':ab} (ty:TypeId) (ha:tA E base h b ts.toList args=some (v,h')) (hr:aA μ args args'.toList):
 ∃s,kF P E base B μ h w s v h'∧∀cs,builtin b ts ty cs args'=(do pure (.value (←s))):=by
 obtain⟨ts⟩:=ts;obtain⟨args'⟩:=args';simp only at ha hr;unfold tA at ha;split at ha
 ·cases hr with
  |cons hs hr=>cases hr with
   |cons hx hr=>cases hr with
    |nil=>
     split at ha
     ·rename_i r hr;simp only[Option.some.injEq]at ha;exact⟨_,HR (ty:=ty) hE H (hr.trans (congrArg some ha)) hs hx,fun _=>rfl⟩
     ·exact⟨_,EY (ty:=ty) hE H ha hs hx,fun _=>rfl⟩
 ·cases hr with
  |cons hs hr=>cases hr with
   |cons hx hr=>cases hr with
    |nil=>exact⟨_,NQ (ty:=ty) hE H ha hs hx _ rfl,fun _=>rfl⟩
 ·cases hr with
  |cons hs hr=>
   simp only[Option.bind_eq_some_iff]at ha;obtain⟨d,hd,ha⟩:=ha;exact⟨_,K8 (ty:=ty) hE H ha hs _ rfl _ rfl ⟨d,hd⟩,fun _=>rfl⟩
 ·cases hr with
  |cons hs hr=>cases hr with
   |cons hx hr=>cases hr with
    |nil=>exact⟨_,HS (ty:=ty) hE H ha hs hx _ rfl,fun _=>rfl⟩
 ·cases ha
theorem p6 {v:Value} {r:Nat} (h:x8 v=some r):v= .pointer (some ⟨r,0,none⟩):=by
 unfold x8 at h;split at h<;>simp at h;subst h;rfl
theorem cJ.filter {l l':List MapEntry} (hs:cJ μ l l') (p:Nat→Bool):cJ μ (l.filter fun e=>p e.born) (l'.filter fun e=>p e.born):=by
 induction hs with
 |nil=>exact .nil
 |cons hk hv hb t ih=>
  simp only[List.filter_cons,hb];split
  ·exact .cons hk hv hb ih
  ·exact ih
theorem cJ.EZ {l l':List MapEntry} (hs:cJ μ l l') (p:Nat→Bool):(l.all fun e=>p e.born)=(l'.all fun e=>p e.born):=by
 induction hs with
 |nil=>rfl
 |cons hk hv hb t ih=>simp only[List.all_cons,hb,ih]
theorem cJ.find {l l':List MapEntry} (hs:cJ μ l l') (p:Nat→Bool) {e:MapEntry} (he:l.find? (fun e=>p e.born)=some e):∃e',l'.find? (fun e=>p e.born)=some e'∧ar μ e.key e'.key∧ar μ e.val e'.val:=by
 induction hs with
 |nil=>simp at he
 |cons hk hv hb t ih=>
  simp only[List.find?_cons]at he ⊢;rw[←hb];split at he
  ·cases he;exact⟨_,rfl,hk,hv⟩
  ·exact ih he
theorem NS (H:bt E base B μ h w) {isStr:Bool} {r:Nat} {m:MT} {v:Value} {h':ab} (ty:TypeId) (ha:JI h isStr r base=some (v,h')) (hb:μ r=some m):
 kF P E base B μ h w (Instr.next (.pointer (some ⟨m.r,0,none⟩)) isStr ty) v h':=by
 unfold JI at ha;simp only[aj,aW]at ha;obtain⟨bE,ha⟩:=ha;obtain⟨o1,o2,k1,k2,k3⟩:=H.obj r m hb;split at ha
 ·rename_i s pos hg;rw[hg]at k1;cases k1;cases k3 with
  |jB gR=>
   have qS:=run_getObj_map (P:=P) k2 (fun _ _ _=>by simp);have NR:=fun o=>cM (P:=P) (o:=o) k2 (fun _ _ _=>by simp);rw[bZ]at ha;split at ha
   ·rename_i aN;rw[ba]at aN;simp only[Option.some.injEq,Prod.mk.injEq]at ha;obtain⟨rfl,rfl⟩:=ha;have st:=Step.put H hb bE hg rfl rfl (CN.set w m.r (.stringIter s (pos+(Utf8.decode s pos).2)) (H.lt hb)) (.jB gR);refine⟨μ,_,_,?_,.dQ (by simpa[goInt]using aA.cons (.bool μ true) (.cons (.int μ .i64 pos) (.cons (.int μ .i32 (Utf8.decode s pos).1) .nil))),st⟩;unfold Instr.next;simp only[Sem.run_bind,qS,Result.andThen_ok];rw[if_pos aN];simp only[Sem.run_bind,NR,Result.andThen_ok,Sem.run_pure];rfl
   ·rename_i aN;rw[ba]at aN;simp only[Option.some.injEq,Prod.mk.injEq]at ha;obtain⟨rfl,rfl⟩:=ha;refine⟨μ,_,w,?_,.dQ (by simpa using aA.cons (.bool μ false) .nil),.refl H⟩;unfold Instr.next;simp only[Sem.run_bind,qS,Result.andThen_ok];rw[if_neg aN];rfl
 ·rename_i hg;rw[hg]at k1;cases k1;cases k3 with
  |nb gR=>
   have qS:=run_getObj_map (P:=P) k2 (fun _ _ _=>by simp);simp only[Option.some.injEq,Prod.mk.injEq]at ha;obtain⟨rfl,rfl⟩:=ha;refine⟨μ,_,w,?_,.dQ (by simpa using aA.cons (.bool μ false) .nil),.refl H⟩;unfold Instr.next;simp only[Sem.run_bind,qS,Result.andThen_ok];rfl
 ·rename_i mm since seen last hg;rw[hg]at k1;cases k1;cases k3 with
  |du hk gR=>
   rename_i mk;have qS:=run_getObj_map (P:=P) k2 (fun _ _ _=>by simp);have NR:=fun o=>cM (P:=P) (o:=o) k2 (fun _ _ _=>by simp);split at ha
   ·rename_i es clock NT;obtain⟨p1,p2,j1,j2,j3⟩:=H.obj mm mk hk;rw[NT]at j1;cases j1;cases j3 with
    |map hs=>
     rename_i bU;have HU:=run_getObj_map (P:=P) j2 (fun _ _ _=>by simp);simp only[aj]at ha;obtain⟨oy,ha⟩:=ha;have hlen:=hs.length;have Vj:bU.isEmpty=es.isEmpty:=by
      cases es<;>cases h9:bU.toList<;>rw[h9]at hlen<;>simp at hlen
      ·have:bU= #[]:=by apply Array.ext';simp[h9]
       simp[this]
      ·have:bU.size≠0:=by have:=congrArg List.length h9;simp at this;omega
       simp[Array.isEmpty,this]
     have cC:(bU.all fun e=>decide (e.born≥last))=es.all (fun e=>Nat.ble last e.born):=by
      rw[←Array.all_toList,←hs.EZ (fun n=>decide (n≥last))]
      congr 1
      funext e
      rw[Bool.eq_iff_iff,aW];simp
     have E4:(!seen.toArray.isEmpty&& !bU.isEmpty&&bU.all fun e=>decide (e.born≥last))=false:=by
      rw[Vj,cC];have:seen.toArray.isEmpty=seen.isEmpty:=by cases seen<;>simp
      rw[this];simpa only[Bool.not_eq_true']using oy
     have rI:=hs.filter (fun n=> !seen.contains n);have Bq:(bU.filter fun e=> !seen.toArray.contains e.born).toList=bU.toList.filter (fun e=> !seen.contains e.born):=by
      simp
     split at ha
     ·rename_i hf;simp only[Option.some.injEq,Prod.mk.injEq]at ha;obtain⟨rfl,rfl⟩:=ha;rw[hf]at rI;have mP:(bU.filter fun e=> !seen.toArray.contains e.born)= #[]:=by
       apply Array.ext';rw[Bq];cases yj:bU.toList.filter (fun e=> !seen.contains e.born)with
       |nil=>rfl
       |cons x y=>rw[yj]at rI;cases rI
      refine⟨μ,_,w,?_,.dQ (by simpa using aA.cons (.bool μ false) .nil),.refl H⟩;unfold Instr.next;simp only[Sem.run_bind,qS,HU,Result.andThen_ok,E4,Bool.false_eq_true,if_false,mP];simp[Question.forced]
     ·rename_i e hf;simp only[aj,ba,Option.some.injEq,Prod.mk.injEq]at ha;obtain⟨aec,rfl,rfl⟩:=ha;rw[hf]at rI;cases yj:bU.toList.filter (fun e=> !seen.contains e.born)with
      |nil=>rw[yj]at rI;cases rI
      |cons e' rest=>
       rw[yj]at rI;cases rI with
       |cons q1 q2 q3 q4=>cases q4 with
        |nil=>
        have vd:(bU.filter fun e=> !seen.toArray.contains e.born)= #[e']:=by
         apply Array.ext';rw[Bq,yj]
        have hbe:e'.born<since:=by omega
        have st:=Step.put (o:=.du (some mm) since (seen++[e.born]) clock) H hb bE hg rfl rfl (CN.set w m.r (.mapIter (some mk.r) since (seen.toArray.push e'.born) clock) (H.lt hb)) (by
         have:=iV.du (μ:=μ) (h:=h.put r (.du (some mm) since (seen++[e.born]) clock)) (base:=base) (b:=r) (m:=m) (since:=since) (last:=clock) (seen:=seen++[e.born]) hk gR;rw[q3]at this ⊢;simpa using this)
        refine⟨μ,_,_,?_,.dQ (by simpa using aA.cons (.bool μ true) (.cons q1 (.cons q2 .nil))),st⟩;unfold Instr.next;simp only[Sem.run_bind,qS,HU,Result.andThen_ok,E4,Bool.false_eq_true,if_false,vd];have f1:(#[e'].filter fun x=>decide (x.born<since))= #[e']:=by simp[hbe]
        have f2:(#[e'].filter fun x=>decide (x.born≥since))= #[]:=by simp;omega
        simp only[f1,f2];simp[Question.forced,NR]
     ·cases ha
   ·cases ha
 ·cases ha
theorem K9 (H:bt E base B μ h w) {r:Nat} {m:MT} {v:Value} (ha:CG h r=some v) (hb:μ r=some m):
 ∃v',ar μ v v'∧(Instr.entry (.pointer (some ⟨m.r,0,none⟩))).run P w= .ok v' w:=by
 unfold CG at ha;obtain⟨o1,o2,k1,k2,k3⟩:=H.obj r m hb;split at ha
 ·rename_i mm since seen JJ hg;rw[hg]at k1;cases k1;cases k3 with
  |du hk gR=>
   rename_i mk;have qS:=run_getObj_map (P:=P) k2 (fun _ _ _=>by simp);split at ha
   ·rename_i es clock NT;obtain⟨p1,p2,j1,j2,j3⟩:=H.obj mm mk hk;rw[NT]at j1;cases j1;cases j3 with
    |map hs=>
     rename_i bU;have HU:=run_getObj_map (P:=P) j2 (fun _ _ _=>by simp);simp only[Option.bind_eq_some_iff,aj,beq_iff,Option.some.injEq]at ha;obtain⟨EN,h1,h2,e,h3,rfl⟩:=ha;obtain⟨e',q1,q2,q3⟩:=hs.find (fun n=>n==EN) h3;refine⟨_,.dQ (by simpa using aA.cons q2 (.cons q3 .nil)),?_⟩;have YK:seen.toArray.back? =some EN:=by simpa using h1
     have YL:bU.find? (fun e=>e.born==EN)=some e':=by rw[←Array.find?_toList];exact q1
     subst h2;unfold Instr.entry;simp only[Sem.run_bind,qS,HU,Result.andThen_ok,YK,YL];simp
   ·cases ha
 ·cases ha
end
end Go.M
