/-
  Part 22 of the library that the proof leans on.
-/
import Derived.Test.YtjklkjjfnipcnaaGreatDoorL12
import Derived.Shelf.Strings.OnBuilder
import Derived.Shelf.Strings.Split
noncomputable section
namespace Go.M
open Go Go.RowKit Go.Shelf Go.Proofs
def IU:List Value→Option (List ByteArray)
 |[]=>some []
 | .string s::l=>(IU l).map (s::·)
 |_::_=>none
def Q3 (args:List Value) (h:ab):Option (Value×ab):=match args with
 |[.slice (some ⟨b,o,some _⟩) len _,.string sep]=>(ah h b o len).bind fun cs=>(IU cs).bind fun xs=>
  aW (Nat.blt 0 len&&Nat.ble len 100000&&Nat.ble (Lib.join (xs.map (·.data.toList)) sep.data.toList).length 1000000) (Value.string ⟨(Lib.join (xs.map (·.data.toList)) sep.data.toList).toArray⟩,h)
 |_=>none
def Xq (js:List Nat) (rest:FuncId→List Value→ab→Option (Value×ab)):FuncId→List Value→ab→Option (Value×ab):=fun g args h=>
 match jU g js,Q3 args h with
 |true,some r=>some r
 |_,_=>rest g args h
section
variable {P:Program} {l:kX}
end
end Go.M
namespace Go.M
open Go Go.RowKit
noncomputable def Q4 (l:kX) (f:List Value→Option Value) (args:List Value) (h:ab):Option (Value×ab):=
 (f args).bind fun v=>aW (args.all scalar&&ar v&&zo l h) (v,h)
noncomputable def Xr (l:kX) (fs:List (Nat×(List Value→Option Value))) (rest:FuncId→List Value→ab→Option (Value×ab)):FuncId→List Value→ab→Option (Value×ab):=fun g args h=>
 match(look fs g).bind fun f=>Q4 l f args h with
 |some r=>some r
 |none=>rest g args h
theorem ao.plain {μ:aS}:∀{l l':List Value},ao μ l l'→l.all scalar=true→l'=l
 |_,_,.nil,_=>rfl
 |_,_,.cons h t,hp=>by
  simp only[List.all_cons,Bool.and_eq_true]at hp;rw[h.an hp.1,ao.plain t hp.2]
section
variable {P:Program} {l:kX} {n:Nat}
end
end Go.M
namespace Go.M
open Go Go.RowKit Go.Shelf Go.Proofs
def nX (s sep:ByteArray):List ByteArray:=Lib.splitB sep 0 (Lib.countB s sep) s
theorem Dd (s sep:ByteArray) (h:1≤sep.size):(nX s sep).length=Lib.countB s sep+1:=Lib.splitB_all sep h 0 _ s rfl
def qu (P:Program) (gm:Nat) (g:FuncId):Prop:=∀(s sep:ByteArray) (w:World),(∃m,w.cell? ⟨gm,0,none⟩=some (.int .i64 m))→s.size<4294967281→1≤sep.size→
 Calls P g #[.string s,.string sep] w fun e w'=>∃t,e= .returned (.slice (some ⟨w.heap.size,0,none⟩) (Lib.countB s sep+1) (Lib.countB s sep+1))∧w'=w.alloc (.cells ((nX s sep).map Value.string).toArray t)
theorem BA {P:Program} {ρ:Ren} (L:Lays.n146 P ρ) (Xs:(P.info? (ρ.t 9)).map (fun i=>(i.zero,i.size,i.bytes))=some (some (.string ByteArray.empty),1,16)) {gm:Nat} (hg:ρ.g 1=gm) {g:FuncId} (e:ρ.f 146=g):qu P gm g:=fun s sep w ⟨m,hc⟩ h1 h2=>by
 subst e hg;exact(Any.strings_Split L Xs s sep m w h1 hc h2).mono fun e w' ⟨h3,h4⟩=>⟨_,h3,h4⟩
def IV:Option (List Value)→Bool
 |some [.int .i64 _]=>true
 |_=>false
theorem De {o:Option (List Value)} (h:IV o=true):∃n,o=some [.int .i64 n]:=by
 unfold IV at h;split at h
 ·exact⟨_,rfl⟩
 ·cases h
def splitK (gm:Nat) (args:List Value) (h:ab):Option (Value×ab):=match args with
 |[.string s,.string sep]=>aW (Nat.blt s.size 1000000&&Nat.ble 1 sep.size&&IV (h.rd gm)) (some (Value.slice (some ⟨h.size,0,some 1⟩) (nX s sep).length ((nX s sep).length+1),h.push (.cells ((nX s sep).map Value.string) h.size h.size 0)))
 |_=>none
def IW (gm:Nat) (js:List Nat) (rest:FuncId→List Value→ab→Option (Value×ab)):FuncId→List Value→ab→Option (Value×ab):=fun g args h=>
 match jU g js,splitK gm args h with
 |true,some r=>some r
 |_,_=>rest g args h
section
variable {P:Program} {l:kX} {gm:Nat}
theorem FX {E:Env} {base B:Nat} {g:FuncId} (EN:E.cd gm=true) (hJ:qu P gm g) {μ:aS} {h h':ab} {w:World} {args:List Value} {args':Array Value} {v:Value}
 (hc:splitK gm args h=some (v,h')) (hr:ao μ args args'.toList) (H:aM E base B μ h w):Calls P g args' w (fA E base B μ h w v h'):=by
 unfold splitK at hc;split at hc
 ·rename_i s sep;simp only[ae,Bool.and_eq_true,aF,ax,Option.some.injEq,Prod.mk.injEq]at hc;obtain⟨⟨⟨h1,h2⟩,h3⟩,rfl,rfl⟩:=hc;obtain⟨v1,v2,pn,EF,e1⟩:∃v1 v2,ak μ (.string s) v1∧ak μ (.string sep) v2∧args'= #[v1,v2]:=by
   obtain⟨l⟩:=args';cases hr with
   |cons q1 q2=>cases q2 with
    |cons q2 q3=>cases q3;exact⟨_,_,q1,q2,rfl⟩
  subst e1;have e1:=pn.an rfl;have e2:=EF.an rfl;subst e1 e2;have zZ:∃m,w.cell? ⟨gm,0,none⟩=some (.int .i64 m):=by
   obtain⟨n0,nC⟩:=De h3;obtain⟨mg,q1,q2,q3⟩:=H.cd gm EN;obtain⟨c,e,fr,k1,_,_,_,k5⟩:=H.read q1 nC;obtain⟨v',p1,p2⟩:=k5 0 (.int .i64 n0) rfl;have:=p2.an rfl;subst this;rw[q2]at k1;rw[q3]at p1;refine⟨n0,?_⟩;unfold World.cell?;rw[k1];exact p1
  refine(hJ s sep w zZ om h2).mono ?_;rintro e w' ⟨t,rfl,rfl⟩;have gJ:=Dd s sep h2;generalize nX s sep=ps at*
  rw[←gJ];have hb:Below w.heap.size w (w.alloc (.cells (ps.map Value.string).toArray t)):=⟨rfl,rfl,rfl,by show _≤(w.heap.push _).size;simp,fun k hk=>Below.heap_alloc w _ k hk⟩;have Hx:=H.ext hb.size fun r hr=>hb.block r hr;have gr:Grow base μ w (w.alloc (.cells (ps.map Value.string).toArray t)):=⟨hb.tape,hb.os,hb.output,hb.size,fun r hr _=>hb.block r hr⟩
  let cs:=ps.map Value.string
  let m2:MT:=⟨w.heap.size,0,(ps.map Value.string).toArray.size⟩
  have EP:(w.alloc (.cells (ps.map Value.string).toArray t)).heap[w.heap.size]? =some (.cells (ps.map Value.string).toArray t (0,0)):=by
   show(w.heap.push _)[w.heap.size]? =_;simp
  have Hp:=Hx.DA (o:=.cells cs h.size h.size 0) (fun _ _ _ _ hh=>by cases hh;rfl);have b7:(h.push (.cells cs h.size h.size 0)).get h.size=some (.cells cs h.size h.size 0):=by rw[ab.ai,if_pos rfl]
  have ho:fR (il μ h.size m2) (h.push (.cells cs h.size h.size 0)) base h.size m2 (.cells cs h.size h.size 0) (.cells (ps.map Value.string).toArray t (0,0)):=by
   refine .cells rfl (by simp[cs,m2]) (fun _=>Ds _) fun _ i v hv=>?_;refine⟨v,by simpa[cs,m2]using hv,?_⟩;obtain⟨x,_,rfl⟩:=List.mem_map.1 (List.mem_of_getElem? hv);exact .lit rfl
  have Ht:=Hp.Ai (b:=h.size) (m:=m2) (by simp[ab.size_push]) b7 H.fresh H.jx (by have:=H.low;show B≤w.heap.size;omega) EP
   (fun d md hd he=>by have:=H.lt hd;simp only[m2]at he;omega) (fun _ _ _ _ hh=>by cases hh;exact⟨rfl,Nat.le_refl _⟩) (fun _ _ _=>rfl) ho
  refine⟨_,il μ h.size m2,rfl,?_,Ht,gr,dO H.fresh,fun d md h0 hd=>?_,fun d hd _=>by rw[ab.ai,if_neg om],by simp[ab.size_push]⟩
  ·have:=ak.slice (μ:=il μ h.size m2) (b:=h.size) (o:=0) (z:=1) (len:=ps.length) (cap:=ps.length+1) (cap':=ps.length) (m:=m2) (bc _ _ _) om (Nat.le_refl _) (fun h=>by omega) (by simp[m2]);simpa[m2]using this
  ·by_cases ed:d=h.size
   ·subst ed;rw[bc]at hd;cases hd;exact⟨Nat.le_refl _,H.jx,.inl (Nat.le_refl _)⟩
   ·rw[lh _ _ ed,h0]at hd;cases hd
 ·cases hc
theorem KX {js:List Nat} {rest:FuncId→List Value→ab→Option (Value×ab)} (EN:(look l gm).isSome=true) (hj:∀g∈js,qu P gm g) (hr:∀base B,eZ P (iV P l rest) base B) (base B:Nat):eZ P (iV P l (IW gm js rest)) base B:=by
 intro μ h w g args args' v h' hc hv H F k hF;have jW:IW gm js rest g args h=some (v,h'):=hc;unfold IW at jW;split at jW
 ·rename_i r h1 h2;cases jW;exact xH hF (FX (E:=iV P l (IW gm js rest)) EN (hj g (qi h1)) h2 hv H)
 ·have H2:aM (iV P l rest) base B μ h w:=⟨H.dZ,H.high,H.obj,H.own,H.alias,H.cW,H.cd,H.low,H.jx,H.wf,H.root⟩
  exact(hr base B μ h w g _ args' v h' jW hv H2 F k hF).mono fun e w' ⟨v',az,h1,h2,h3⟩=>
   ⟨v',az,h1,h2,⟨⟨h3.rel.dZ,h3.rel.high,h3.rel.obj,h3.rel.own,h3.rel.alias,h3.rel.cW,h3.rel.cd,h3.rel.low,h3.rel.jx,h3.rel.wf,h3.rel.root⟩,h3.grow,h3.le,h3.new,h3.zC,h3.cI⟩⟩
end
end Go.M
namespace Go.M
open Go
section
variable {α:Type}
def qw (k:IntKind) (f:α→TV) (e:Int×α):Value×TV:=(.int k e.1,f e.2)
def e8:List (Int×α)→Int→Option α
 |[],_=>none
 |e::es,n=>if n=e.1 then some e.2 else e8 es n
def ni:List (Int×α)→Int→α→List (Int×α)
 |[],n,v=>[(n,v)]
 |e::es,n,v=>if n=e.1 then(n,v)::es else e::ni es n v
@[reducible] def fQ (es:List (Int×α)):List Int:=es.map (·.1)
theorem L6 {k k':IntKind} {f:α→TV} {e:Int×α} {n:Int}:ov (.int k' n) (qw k f e).1=decide (n=e.1):=by
 rw[Bool.eq_iff_iff];simp[ov,qw]
theorem zq (k k':IntKind) (f:α→TV) (n:Int):∀es:List (Int×α),fo (es.map (qw k f)) (.int k' n)=(e8 es n).map f
 |[]=>rfl
 |e::es=>by
  rw[List.map_cons];unfold fo e8;rw[L6];by_cases he:n=e.1
  ·simp[he,qw]
  ·simp[he,zq k k' f n es]
theorem IX (k:IntKind) (f:α→TV) (n:Int) (v:α):∀es:List (Int×α),c8 (es.map (qw k f)) (.int k n) (f v)=(ni es n v).map (qw k f)
 |[]=>rfl
 |e::es=>by
  rw[List.map_cons];unfold c8 ni;rw[L6];by_cases he:n=e.1
  ·simp[he,qw]
  ·simp[he,IX k f n v es]
theorem KY (k:IntKind) (f:α→TV) (es:List (Int×α)):(es.map (qw k f)).map (·.1)=(fQ es).map (.int k):=by
 simp[qw,fQ,Function.comp_def]
theorem rP {n:Int} {v:α}:∀{es:List (Int×α)},fQ (ni es n v)=if n∈fQ es then fQ es else fQ es++[n]
 |[]=>rfl
 |e::es=>by
  have ih:=rP (n:=n) (v:=v) (es:=es);unfold ni;by_cases he:n=e.1
  ·simp[he]
  ·simp only[he,if_false,fQ,List.map_cons,List.mem_cons,false_or]at ih ⊢;rw[ih];split<;>simp
theorem vG {n:Int} {v:α} {es:List (Int×α)} (h:(fQ es).Nodup):(fQ (ni es n v)).Nodup:=by
 rw[rP];split
 ·exact h
 ·rename_i hn;rw[List.nodup_append];exact⟨h,by simp,fun a ha b hb=>by simp at hb;subst hb;rintro rfl;exact hn ha⟩
theorem BB (es:List (Int×α)) (n:Int) (v:α):(ni es n v).length≤es.length+1:=by
 have:=congrArg List.length (rP (n:=n) (v:=v) (es:=es));simp only[fQ,List.length_map]at this;rw[this];split<;>simp
theorem jP {n:Int} {v:α}:∀{es:List (Int×α)},(fQ es).Nodup→(e8 es n=some v↔(n,v)∈es)
 |[],_=>by simp[e8]
 |e::es,h=>by
  simp only[fQ,List.map_cons,List.nodup_cons]at h;unfold e8;by_cases he:n=e.1
  ·rw[if_pos he];constructor
   ·intro h1;cases h1;rw[he];exact List.mem_cons_self
   ·intro h1;rcases List.mem_cons.1 h1 with h1|h1
    ·rw[←h1]
    ·exact absurd (List.mem_map.2 ⟨_,h1,he⟩) h.1
  ·rw[if_neg he,jP h.2];constructor
   ·exact fun h1=>List.mem_cons_of_mem _ h1
   ·intro h1;rcases List.mem_cons.1 h1 with h1|h1
    ·exact absurd (congrArg (·.1) h1) he
    ·exact h1
theorem vH {n:Int}:∀{es:List (Int×α)},e8 es n=none↔n∉fQ es
 |[]=>by simp[e8]
 |e::es=>by
  have ih:=vH (n:=n) (es:=es);unfold e8;by_cases he:n=e.1
  ·simp[he]
  ·simp only[he,if_false,fQ,List.map_cons,List.mem_cons,false_or]at ih ⊢;exact ih
theorem rQ {n m:Int} {v:α}:∀{es:List (Int×α)},e8 (ni es n v) m=if m=n then some v else e8 es m
 |[]=>by simp[ni,e8]
 |e::es=>by
  have ih:=rQ (n:=n) (m:=m) (v:=v) (es:=es);unfold ni;by_cases he:n=e.1
  ·simp only[he,if_true,e8];by_cases hm:m=e.1<;>simp[hm]
  ·simp only[he,if_false,e8,ih];by_cases hm:m=e.1
   ·rw[if_pos hm,if_pos hm,if_neg];rintro rfl;exact he hm
   ·rw[if_neg hm,if_neg hm]
theorem IY {n:Int} {v:α} {x:Int×α} {es:List (Int×α)} (h:(fQ es).Nodup):x∈ni es n v↔x=(n,v)∨x.1≠n∧x∈es:=by
 obtain⟨a,b⟩:=x;rw[←jP (vG h),rQ];by_cases e:a=n
 ·subst e;simp;exact eq_comm
 ·simp[e,jP h]
end
end Go.M
end
