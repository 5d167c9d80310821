/-
  Part 3 of the library that the proof leans on.
-/
import Derived.Test.YteoljjhhdgplnaaGreatDoorL2
import Derived.Lib.ConvBytes
import Derived.Laws.BytesString
import Derived.RangeFuncLeaves
import Derived.LoopNIn
import Derived.RangeFuncCalls
import Derived.OrdersIn
namespace Go.M
open Go
section
variable {P:Program} {E:Env} {μ:ba} {f:AF} {a:Act} {base B:Nat} {h:ah} {w:World}
theorem A3:∀{l:List Value} {ns:List Int},Jk l=some ns→l=ns.map (Value.int .u8)
 |[],ns,h=>by simp[Jk]at h;subst h;rfl
 |v::l,ns,h=>by
  cases v<;>try(simp[Jk]at h;done)
  rename_i k n;cases k<;>try(simp[Jk]at h;done)
  simp only[Jk,Option.bind_eq_some_iff,Option.some.injEq]at h;obtain⟨r,h1,rfl⟩:=h;rw[A3 h1];rfl
theorem Dd (ns:List Int):ns.foldl (fun r n=>r.push (UInt8.ofNat n.toNat)) ByteArray.empty=strOf ns:=by
 have key:∀(ns:List Int) (s:ByteArray),ns.foldl (fun r n=>r.push (UInt8.ofNat n.toNat)) s=⟨s.data++(ns.map fun n=>UInt8.ofNat n.toNat).toArray⟩:=by
  intro ns
  induction ns with
  |nil=>intro s;simp
  |cons n ns ih=>
   intro s;rw[List.foldl_cons,ih];simp[ByteArray.push]
 rw[key];unfold strOf;simp[ByteArray.empty,ByteArray.emptyWithCapacity]
 try rfl
theorem aq.scalars {μ:ba} {l l':List Value} (h:aq μ l l'):l.all scalar=true→l=l':=by
 induction h with
 |nil=>intro _;rfl
 |cons h _ ih=>
  intro hs;simp only[List.all_cons,Bool.and_eq_true]at hs;rw[h.ao hs.1,ih hs.2]
theorem ze {d:TypeDesc} (h:C4 d=true):d= .int .u8:=by
 unfold C4 at h;split at h
 ·rfl
 ·cases h
theorem Step.cE {w':World} (H:aX E base B μ h w) {b:Nat} {m:MT} (hb:μ b=some m) (bh:base≤b) {c:Array Value} {e:TypeId} {fr I8:Nat×Nat} (gm:w.heap[m.r]? =some (.cells c e fr)) (hf:mL I8 c.size) (hu:yY w m.r (.cells c e I8) w'):Step E base B μ h w μ h w':=by
 refine⟨⟨H.fy,H.high,fun b' m' bJ=>?_,H.own,H.alias,H.c8,H.cW,by rw[hu.size];exact H.low,H.lq,H.wf,H.root⟩,⟨hu.tape,hu.os,hu.output,by rw[hu.size];exact Nat.le_refl _,fun r hr hk=>?_⟩,μ.le_refl,(fun c mc h0 hc=>by rw[h0]at hc;cases hc),fun _ _ _=>rfl,Nat.le_refl _⟩
 ·obtain⟨o,o',k1,k2,k3⟩:=H.obj b' m' bJ;by_cases er:m'.r=m.r
  ·rw[er,gm]at k2;cases k2;refine⟨o,.cells c e I8,k1,by rw[er,hu.get,if_pos rfl],?_⟩;cases k3 with
   |cells hn hl wu hc=>exact .cells hn hl (fun _=>by rw[←hn];exact hf) hc
   |fM hp hs hc hn=>exact .fM hp hs hc hn
  ·exact⟨o,o',k1,by rw[hu.get,if_neg er];exact k2,k3⟩
 ·rw[hu.get,if_neg];intro e;have:=hk b m hb e.symm;omega
theorem run_mark (w:World) {r:Nat} {off:Nat} {c:Array Value} {e:TypeId} {fr:Nat×Nat} (gm:w.heap[r]? =some (.cells c e fr)) (u8 src:TypeId) (hs:P.underlying src=some (.slice u8)) (he:P.underlying u8=some (.int .u8)) (len cap:Nat):
 ∃w',(convert src src (.slice (some ⟨r,off,none⟩) len cap)).run P w= .ok (.slice (some ⟨r,off,none⟩) len cap) w'∧yY w r (.cells c e (if fr.1==fr.2 then(c.size,c.size+1)else(min fr.1 c.size,max fr.2 (c.size+1)))) w':=by
 have hsh:w.shape? r=some (e,c.size):=by simp[World.shape?,gm]
 refine⟨w.freeze ⟨r,c.size,none⟩ 1,?_,?_⟩
 ·simp[convert,run_underlying hs,run_underlying he,markStringish,hsh]
 ·have bj:r<w.heap.size:=(Array.getElem?_eq_some_iff.1 gm).1;refine⟨by simp[World.freeze],by simp[World.freeze],by simp[World.freeze],by simp[World.freeze],fun k=>?_⟩;by_cases ek:k=r
  ·subst ek;rw[if_pos rfl];simp[World.freeze,Array.getElem?_modify,gm]
  ·rw[if_neg ek];simp[World.freeze,Array.getElem?_modify,Ne.symm ek]
theorem JC (hE:bl P E) (H:aX E base B μ h w) {s d:TypeId} {x x' v:Value} {h':ah} (ha:oT E base h s d x=some (v,h')) (hx:an μ x x'):iN P E base B μ h w (convert s d x') v h':=by
 unfold oT at ha;simp only[Option.bind_eq_some_iff]at ha;obtain⟨sd,hs,dd,hd,ha⟩:=ha;split at ha
 ·rename_i e str;simp only[Option.bind_eq_some_iff,aj,Option.some.injEq]at ha;obtain⟨ed,he,hu,ha⟩:=ha;cases ze hu;cases hx.ao rfl;have fC:=Lib.run_convert_string_bytes (P:=P) w s d e str (hE.desc s _ hs) (hE.desc d _ hd) (hE.desc e _ he);have eY:(Lib.bytesCells w e str).size=grownCap w str.size 0 e:=by
   have:str.size≤grownCap w str.size 0 e:=by simp[grownCap,Question.cut]
   simp[Lib.bytesCells];have e:str.data.size=str.size:=rfl;omega
  have hle:str.size≤grownCap w str.size 0 e:=by simp[grownCap,Question.cut]
  let N:=grownCap w str.size 0 e
  have c9:AO w (.cells (Lib.bytesCells w e str) e (N,N+1)) (Lib.bytesWorld w e str):=by
   refine⟨by simp[Lib.bytesWorld,World.freeze,World.alloc,World.drew,-World.alloc_eq,-World.drew_eq],by simp[Lib.bytesWorld,World.freeze,World.alloc,World.drew,-World.alloc_eq,-World.drew_eq],by simp[Lib.bytesWorld,World.freeze,World.alloc,World.drew,-World.alloc_eq,-World.drew_eq],Lib.bytesWorld_size w e str,fun k=>?_⟩;by_cases ek:k=w.heap.size
   ·subst ek;rw[if_pos rfl,Lib.bytesWorld_at_new,eY]
   ·rw[if_neg ek];rcases Nat.lt_or_ge k w.heap.size with h1|h1
    ·exact Lib.bytesWorld_at_old w e str k h1
    ·rw[Array.getElem?_eq_none h1,Array.getElem?_eq_none (by rw[Lib.bytesWorld_size];omega)]
  have qX:∀(i:Nat) u,(eG str)[i]? =some u→∃u',(Lib.bytesCells w e str)[i]? =some u'∧∀aK,an aK u u':=by
   intro i u hu;have hi:=(List.getElem?_eq_some_iff.1 hu).1;refine⟨u,?_,fun aK=>?_⟩
   ·unfold Lib.bytesCells;rw[Array.getElem?_append_left (by simpa[eG]using hi),←Array.getElem?_toList,Array.toList_map];exact hu
   ·simp only[eG,List.getElem?_map,Option.map_eq_some_iff]at hu;obtain⟨b,_,rfl⟩:=hu;exact .int _ _ _
  have st:=Step.alloc H c9 N (o:=.cells (eG str) h.size h.size 0) (fun cs f cu aF hh=>by cases hh;exact⟨rfl,rfl⟩) (by
   refine .cells eY (by simp[eG];exact hle) (fun _=>Jm N) fun _ i u hu=>?_;obtain⟨u',q1,q2⟩:=qX i u hu;exact⟨u',by simpa using q1,q2 _⟩)
  have e1:fresh h (eG str) 1 str.size=(.slice (some ⟨h.size,0,some 1⟩) str.size (str.size+1),h.push (.cells (eG str) h.size h.size 0)):=rfl;rw[e1]at ha;obtain⟨rfl,rfl⟩:=Prod.mk.inj ha;refine⟨_,_,_,fC,?_,st⟩;have:=an.slice (o:=0) (z:=1) (len:=str.size) (cap:=str.size+1) (cap':=N) (bB μ h.size ⟨w.heap.size,0,N⟩) om hle (fun h=>by omega) (by simp);simpa using this
 ·rename_i e b o z len cap;simp only[Option.bind_eq_some_iff,aj,Bool.and_eq_true,beq_iff,az,aI]at ha;obtain⟨ed,he,⟨⟨⟨⟨hu,XD⟩,bh⟩,ft⟩,tI⟩,ha⟩:=ha;cases ze hu;subst XD;split at ha
  ·rename_i e2;rw[hs]at hd;cases hd;simp only[Option.some.injEq,Prod.mk.injEq]at ha;obtain⟨rfl,rfl⟩:=ha;obtain⟨cs,oz⟩:=Option.isSome_iff_exists.1 ft;generalize hq:Value.slice (some ⟨b,o,some z⟩) len cap=q at hx;cases hx with
   |slice hb k1 k2 k3 k4=>
    cases hq;obtain⟨c,e',fr,q1,q2,q3,q4,q5⟩:=H.read hb oz;obtain⟨w',r1,r2⟩:=run_mark (P:=P) w q1 e s (hE.desc s _ hs) (hE.desc e _ he) _ _;refine⟨μ,_,w',r1,.slice hb k1 k2 k3 k4,Step.cE H hb bh q1 ?_ r2⟩;have:=q4 bh;rw[←q2]at this;exact this.mark
   |cA hb=>
    cases hq;omega
   |lit hh=>subst hq;simp[ar]at hh
   |_=>cases hq
  ·cases ha
 ·rename_i a len cap;split at ha
  ·rename_i e;simp only[Option.bind_eq_some_iff,aj]at ha;obtain⟨ed,he,hu,ha⟩:=ha;cases ze hu;have conv:=fun(a':Option Addr) (c' l':Nat)=>run_convert_bytes_string (P:=P) w s d e a' l' c' (hE.desc s _ hs) (hE.desc e _ he) (hE.desc d _ hd)
   have fin:∀(ns:List Int) (ad:Addr) (l' c':Nat),x'= .slice (some ad) l' c'→(loadCells ad l').run P w= .ok (ns.map (Value.int .u8)).toArray w→iN P E base B μ h w (convert s d x') (.string (strOf ns)) h:=by
    intro ns ad l' c' ex hld;refine⟨μ,_,w,by rw[ex,conv,run_bytesToString w ad l' c' ns hld,Dd],.string μ _,.refl H⟩
   rw[bG]at ha;split at ha
   ·rename_i h0;rw[beq_iff]at h0;subst h0;simp only[Option.some.injEq,Prod.mk.injEq]at ha;obtain⟨rfl,rfl⟩:=ha;generalize hq:Value.slice a 0 cap=q at hx;cases hx with
    |slice hb k1 k2 k3 k4=>cases hq;exact fin [] _ _ _ rfl (by simp[loadCells,loadCellsFrom])
    |cA hb=>cases hq;exact fin [] _ _ _ rfl (by simp[loadCells,loadCellsFrom])
    |lit hh=>
     subst hq;cases a with
     |none=>exact⟨μ,_,w,by rw[conv];simp[Conv.bytesToString];rfl,.string μ _,.refl H⟩
     |some a=>simp[ar]at hh
    |_=>cases hq
   simp only[Option.bind_eq_some_iff,Option.some.injEq,Prod.mk.injEq]at ha;obtain⟨l,hl,ns,y9,rfl,rfl⟩:=ha;have el:=A3 y9;unfold eB at hl;split at hl
   ·rename_i b o z NB UW ex;cases ex;generalize hq:Value.slice (some ⟨b,o,some z⟩) len cap=q at hx;cases hx with
    |slice hb k1 k2 k3 k4=>
     rename_i m;cases hq;obtain⟨l',r1,r2⟩:=H.xg hb hl;have uq:=(H.ai hb hl).1;have e2:l'=ns.map (Value.int .u8):=by
      have:=aq.scalars r1 (by
       rw[el,List.all_eq_true];intro v hv;obtain⟨n,_,rfl⟩:=List.mem_map.1 hv;rfl)
      rw[←el,this]
     refine fin ns _ _ _ rfl ?_;simp only[loadCells];have E4:l'.length=len:=by rw[←r1.length,uq];omega
     rw[run_loadCells len 0 #[] l' E4 (fun k v hv=>by rw[fF];have:=r2 k v hv;simpa[World.cell?]using this)];simp[e2]
    |cA hb=>
     cases hq;have:=wI (by simpa using hl);subst this;simp[Jk]at y9;subst y9;exact fin [] _ _ _ rfl (by simp[loadCells,loadCellsFrom])
    |lit hh=>subst hq;simp[ar]at hh
    |_=>cases hq
   ·rename_i NB UW ex;cases ex;simp only[Option.some.injEq]at hl;subst hl;simp[Jk]at y9;subst y9;cases hx with
    |lit hh=>
     refine⟨μ,_,w,by rw[conv];simp[Conv.bytesToString];rfl,.string μ _,.refl H⟩
   ·rename_i ex;cases ex
   ·cases hl
  ·cases ha
 ·cases ha
end
section
variable {P:Program} {E:Env} {μ:ba} {f:AF} {a:Act} {base B:Nat} {h:ah} {w:World}
theorem zg {a b:ByteArray} (h:(a==b)=true):a=b:=by
 rw[beq_toListBytes,ByteArray.toList_eq,ByteArray.toList_eq]at h;have:=eq_of_beq h;obtain⟨⟨x⟩⟩:=a;obtain⟨⟨y⟩⟩:=b;simp at this;rw[this]
def U3 (nx:Next) (v':Value):Prop:=nx= .value v'∨(nx= .skip∧v'=undef)
set_option maxHeartbeats 1000000 in
set_option maxHeartbeats 1000000 in
theorem ur (hE:bl P E) (hf:cB μ f a.tmps) (H:aX E base B μ h w) {o:Oper} {v:Value} {h':ah} (ha:cH E base f o h=some (.val v,h')):
 ∃aK nx v' w',(execOp a.eval o).run P w= .ok nx w'∧U3 nx v'∧an aK v v'∧Step E base B μ h w aK h' w':=by
 have hg:fB E μ:=H.cW;obtain⟨dst,op,type,pos,after,guard⟩:=o;cases op
 case store t x y=>
  simp only[cH,Option.bind_eq_some_iff,aj,Bool.and_eq_true,beq_iff,Option.some.injEq,Prod.mk.injEq,kb.val.injEq]at ha;obtain⟨av,h1,v1,h2,n,h3,p,h4,⟨h5,jt⟩,cs,ft,cs',gC,h6,oB,rfl,rfl⟩:=ha;have e:=jq h4;subst e;obtain⟨m,hb,ex⟩:=(aT hg hf h1).iX;have hv:=aT hg hf h2;obtain⟨w',q1,q2⟩:=re (P:=P) H hb ft gC oB hv.cells jt;refine⟨μ,.skip,undef,w',?_,.inr ⟨rfl,rfl⟩,.undef μ,q2⟩;have eY:(a.eval y).cells.size=n:=by rw[←hv.uc];exact h5
  simp only[execOp,Instr.storeAt,Sem.run_bind,ex,Instr.sureAddr,Sem.run_pure,Result.andThen_ok,storeVar,ff hE h3 w];rw[if_neg (by simpa using eY)];simp only[q1,Result.andThen_ok]
 case mapUpdate t mm kk x|insert t mm kk x=>
  simp only[cH,Option.bind_eq_some_iff,Option.some.injEq,Prod.mk.injEq,kb.val.injEq]at ha;obtain⟨mv,h1,k,h2,v1,h3,h4,h5,rfl,rfl⟩:=ha;unfold lx at h5;simp only[Option.bind_eq_some_iff]at h5;obtain⟨d,hd,h5⟩:=h5;split at h5
  ·rename_i kt et r;simp only[Option.bind_eq_some_iff,aj,Bool.and_eq_true,az]at h5;obtain⟨kd,gB,⟨⟨bh,bU⟩,xi⟩,h5⟩:=h5;split at h5
   ·rename_i es clock JB;obtain⟨m,hb,ex⟩:=(aT hg hf h1).jU;have ek:=(aT hg hf h2).ao xi;have hv:=aT hg hf h3;obtain⟨o1,o2,k1,k2,k3⟩:=H.obj r m hb;rw[JB]at k1;cases k1;cases k3 with
    |map hs=>
     rename_i bD;simp only[Option.bind_eq_some_iff]at h5;obtain⟨fr,zd,h5⟩:=h5;obtain⟨I8,q1,q2,q3⟩:=iw hs zd;have AV:(Instr.findKey kt k bD.toList).run P w= .ok I8 w:=by
      simp only[Instr.findKey,Sem.run_bind,ay hE gB w,Result.andThen_ok,q1,Sem.run_pure]
     have uk:=jr (P:=P) hE gB bU false 9999 k w;have nM:=run_getObj_map (P:=P) k2 (fun _ _ _=>by simp);have Jz:=fun o=>bP (P:=P) (o:=o) k2 (fun _ _ _=>by simp);have hkr:an μ k k:=.nJ μ xi;cases fr with
     |none=>
      have e:=q2 rfl;subst e;simp only[Option.some.injEq]at h5;subst h5;have st:=Step.put (o:=.map (es++[{key:=k,val:=v1,born:=clock}]) (clock+1)) H hb bh JB rfl rfl (yY.set w m.r (.map (bD.push {key:=k,val:=a.eval x,born:=clock}) (clock+1)) (H.lt hb)) (.map (by
       simpa using hs.append (b9.cons (e:={key:=k,val:=v1,born:=clock}) (e':={key:=k,val:=a.eval x,born:=clock}) hkr hv rfl .nil)))
      refine⟨μ,.skip,undef,_,?_,.inr ⟨rfl,rfl⟩,.undef μ,st⟩;simp only[execOp,Instr.mapUpdate,Sem.run_bind,ay hE hd w,Result.andThen_ok,ex,ek,nM,uk,AV,Jz];rfl
     |some jv=>
      obtain⟨v',e,hr⟩:=q3 jv.1 jv.2 rfl;subst e;simp only[Option.some.injEq]at h5;subst h5;have hsb:Instr.sameBits 10000 (((bD[jv.1]?).map (·.key)).getD k) k=true:=by
       have hh:∀{es:List MapEntry} {i j:Nat} {v:Value},Instr.findNow kd k es i=some (some (j,v))→∃e,es[j - i]? =some e∧e.key=k∧i≤j:=by
        intro es
        induction es with
        |nil=>intro i j v hq;simp[Instr.findNow]at hq
        |cons e0 es0 ih=>
         intro i j v hq;simp only[Instr.findNow]at hq;split at hq
         ·rename_i JD;simp only[Option.some.injEq,Prod.mk.injEq]at hq;obtain⟨rfl,_⟩:=hq;refine⟨e0,by simp,?_,Nat.le_refl _⟩;unfold Instr.sameNow at JD;split at JD
          ·rename_i z1;split at JD
           ·rename_i z2;subst z2;simp only[Option.some.injEq,beq_iff_eq]at JD;rw[z1,JD]
           ·cases JD
          ·rename_i z1;simp only[Option.some.injEq]at JD;rw[z1,zg JD]
          ·rename_i z1;simp only[Option.some.injEq,beq_iff_eq]at JD;rw[z1,JD]
          ·cases JD
         ·obtain⟨e1,p1,p2,p3⟩:=ih hq;refine⟨e1,?_,p2,om⟩;have:j - i=(j - (i+1))+1:=by omega
          rw[this];simpa using p1
         ·cases hq
       obtain⟨e1,p1,p2,_⟩:=hh q1;have p1':bD[jv.1]? =some e1:=by simpa using p1
       rw[p1'];simp only[Option.map_some,Option.getD_some,p2];cases k<;>simp[scalar]at xi<;>first|(simp[Instr.sameBits];done)|(simp only[Instr.sameBits];rw[beq_toListBytes];simp)
      have st:=Step.put (o:=.map (es.modify jv.1 fun e=>{e with key:=k,val:=v1}) clock) H hb bh JB rfl rfl (yY.set w m.r (.map (bD.modify jv.1 fun e=>{e with key:=k,val:=a.eval x}) clock) (H.lt hb)) (.map (by
       have:=hs.modify (g:=fun e=>{e with key:=k,val:=v1}) (g':=fun e=>{e with key:=k,val:=a.eval x}) (fun e e' _ _ hb=>⟨hkr,hv,hb⟩) jv.1;simpa using this))
      refine⟨μ,.skip,undef,_,?_,.inr ⟨rfl,rfl⟩,.undef μ,st⟩;simp only[execOp,Instr.mapUpdate,Sem.run_bind,ay hE hd w,Result.andThen_ok,ex,ek,nM,uk,AV];unfold Instr.keyThatStays;rw[hsb];simp only[if_true,Sem.run_pure,Result.andThen_ok,Jz]
   ·cases h5
  ·cases h5
 case range t x=>
  simp only[cH,Option.bind_eq_some_iff]at ha;obtain⟨d,hd,v1,h1,ha⟩:=ha;split at ha
  ·rename_i kt et r;split at ha
   ·rename_i es clock JB;simp only[Option.some.injEq,Prod.mk.injEq,kb.val.injEq]at ha;obtain⟨rfl,rfl⟩:=ha;obtain⟨m,hb,ex⟩:=(aT hg hf h1).jU;obtain⟨o1,o2,k1,k2,k3⟩:=H.obj r m hb;rw[JB]at k1;cases k1;cases k3 with
    |map hs=>
     have nM:=run_getObj_map (P:=P) k2 (fun _ _ _=>by simp);have hle:μ.le (jk μ h.size ⟨w.heap.size,0,0⟩):=fA H.fresh;have st:=Step.alloc (o:=.bY (some r) clock [] clock) H (AO.mk' w (.mapIter (some m.r) clock #[] clock)) 0 (fun _ _ _ _ hh=>by cases hh) (by
      have:=gP.bY (μ:=jk μ h.size ⟨w.heap.size,0,0⟩) (h:=h.push (.bY (some r) clock [] clock)) (base:=base) (b:=h.size) (m:=⟨w.heap.size,0,0⟩) (since:=clock) (last:=clock) (seen:=[]) (hle _ _ hb) rfl;simpa using this)
     refine⟨_,_,.pointer (some ⟨w.heap.size,0,none⟩),_,?_,.inl rfl,?_,st⟩
     ·simp only[execOp,Instr.range,Sem.run_bind,ay hE hd w,Result.andThen_ok,ex,nM,Sem.run_pure,run_newObj]
     ·have:=an.ptr (o:=0) (bB μ h.size ⟨w.heap.size,0,0⟩);simpa using this
   ·cases ha
  ·cases ha
 case convert sT d x=>
  simp only[cH,Option.bind_eq_some_iff,Option.some.injEq,Prod.mk.injEq,kb.val.injEq]at ha;obtain⟨v1,h1,⟨v2,P1⟩,h3,rfl,rfl⟩:=ha;obtain⟨aK,v',w',q1,q2,q3⟩:=JC (P:=P) hE H h3 (aT hg hf h1);refine⟨aK,.value v',v',w',?_,.inl rfl,q2,q3⟩;simp only[execOp,Sem.run_bind,q1,Result.andThen_ok,Sem.run_pure]
 case next it isStr=>
  simp only[cH,Option.bind_eq_some_iff,Option.some.injEq,Prod.mk.injEq,kb.val.injEq]at ha;obtain⟨v1,h1,r,h2,⟨v2,P1⟩,h3,rfl,rfl⟩:=ha;have e:=mS h2;subst e;obtain⟨m,hb,ex⟩:=(aT hg hf h1).iX;have iu:m.s=0:=by
   obtain⟨o1,o2,k1,k2,k3⟩:=H.obj r m hb;unfold EO at h3;simp only[aj]at h3;cases k3 with
   |gU hs=>exact hs
   |ke hs=>exact hs
   |bY _ hs=>exact hs
   |_=>rw[k1]at h3;simp at h3
  obtain⟨aK,v',w',q1,q2,q3⟩:=JA (P:=P) H type h3 hb;refine⟨aK,.value v',v',w',?_,.inl rfl,q2,q3⟩;rw[iu]at ex;simp only[execOp,Sem.run_bind,ex,q1,Result.andThen_ok,Sem.run_pure]
 case entry it=>
  simp only[cH,Option.bind_eq_some_iff,Option.some.injEq,Prod.mk.injEq,kb.val.injEq]at ha;obtain⟨v1,h1,r,h2,v2,h3,rfl,rfl⟩:=ha;have e:=mS h2;subst e;obtain⟨m,hb,ex⟩:=(aT hg hf h1).iX;have iu:m.s=0:=by
   obtain⟨o1,o2,k1,k2,k3⟩:=H.obj r m hb;unfold mJ at h3;cases k3 with
   |gU hs=>exact hs
   |ke hs=>exact hs
   |bY _ hs=>exact hs
   |_=>rw[k1]at h3;simp at h3
  obtain⟨v',q1,q2⟩:=GH (P:=P) H h3 hb;refine⟨μ,.value v',v',w,?_,.inl rfl,q1,.refl H⟩;rw[iu]at ex;simp only[execOp,Sem.run_bind,ex,q2,Result.andThen_ok,Sem.run_pure]
 case call c=>
  simp only[cH,Option.bind_eq_some_iff]at ha;obtain⟨args,h1,ha⟩:=ha;have hr:=iZ hg hf h1;split at ha
  ·rename_i b zb;simp only[Option.bind_eq_some_iff,Option.some.injEq,Prod.mk.injEq,kb.val.injEq]at ha;obtain⟨⟨v1,wo⟩,h2,rfl,rfl⟩:=ha;obtain⟨s,⟨aK,v',w',q1,q2,q3⟩,hs⟩:=Db hE H (ts:=c.argTypes) (args':=c.args.map a.eval) type h2 (by simpa using hr);refine⟨aK,.value v',v',w',?_,.inl rfl,q2,q3⟩;simp only[execOp,resolve,zb,Sem.run_bind,Sem.run_pure,Result.andThen_ok,invoke];rw[hs _];simp only[Sem.run_bind,q1,Result.andThen_ok,Sem.run_pure]
  ·simp only[Option.bind_eq_some_iff]at ha;obtain⟨g,_,ha⟩:=ha;split at ha<;>simp at ha
  ·cases ha
 all_goals(simp only[cH]at ha;cases ha)
theorem o5 (hE:bl P E) (hf:cB μ f a.tmps) (H:aX E base B μ h w) {o:Oper} {g:FuncId} {args:List Value} {h':ah} (ha:cH E base f o h=some (.enter g args,h')) (uu:(E.func g).isSome=true):
 ∃args':Array Value,h'=h∧aq μ args args'.toList∧(execOp a.eval o).run P w= .ok (.enter g args') w:=by
 have hg:fB E μ:=H.cW;obtain⟨dst,op,type,pos,after,guard⟩:=o;cases op
 case call c=>
  simp only[cH,Option.bind_eq_some_iff]at ha;obtain⟨asv,h1,ha⟩:=ha;have hr:=iZ hg hf h1;split at ha
  ·simp only[Option.bind_eq_some_iff,Option.some.injEq,Prod.mk.injEq]at ha;obtain⟨_,_,h2,_⟩:=ha;cases h2
  ·rename_i gx zb;simp only[Option.bind_eq_some_iff]at ha;obtain⟨gv,h2,ha⟩:=ha;split at ha
   ·rename_i gid first captured
    simp only[Option.some.injEq,Prod.mk.injEq,kb.enter.injEq]at ha;obtain⟨⟨rfl,rfl⟩,rfl⟩:=ha;have wv:=aT hg hf h2;generalize hq:a.eval gx=q at wv;cases wv with
    |lit hh=>simp[ar]at hh
    |func q1 q2 q3 q4=>
     rename_i o6 gZ;refine⟨o6++c.args.map a.eval++gZ,rfl,?_,?_⟩
     ·simp only[Array.toList_append,Array.toList_map];exact((aq.lz q1 q2).append hr).append (aq.lz q3 q4)
     ·obtain⟨fn,U4⟩:=Option.isSome_iff_exists.1 uu;obtain⟨f1,f2,f3⟩:=hE.func _ _ U4;have hb:fn.body.isNone=false:=by cases hx:fn.body<;>simp_all
      simp only[execOp,resolve,zb,Sem.run_bind,Sem.run_pure,Result.andThen_ok,hq,Deferred.ofValue,invoke,callFunc,run_program,f1,f3,hb,Bool.false_eq_true,if_false]
   ·simp at ha
   ·cases ha
  ·cases ha
 all_goals(simp only[cH]at ha;first|cases ha|(simp only[Option.bind_eq_some_iff,Option.some.injEq,Prod.mk.injEq,aj,reduceCtorEq,false_and,and_false,exists_false]at ha)|skip)
 case range t x=>
  obtain⟨_,_,_,_,ha⟩:=ha;split at ha
  ·split at ha<;>simp at ha
  ·cases ha
theorem o7 (hf:cB μ f a.tmps) (H:aX E base B μ h w) {o:Oper} {l:Nat} {args:List Value} {h':ah} (ha:cH E base f o h=some (.round l args,h')) {st:LoopState} {p:Option Code} {f0:AF} {ps:List Tmp} {gO body:Code}
 (hl:h.get l=some (.loop st p f0 ps gO body)) (hlen:ps.length=args.length):
 ∃(m:MT) (args':List Value) (lo:Loop),h'=h∧μ l=some m∧w.heap[m.r]? =some (.loop lo)∧aq μ args args'∧
  (execOp a.eval o).run P w= .ok (.round m.r lo.fn ((ps.zip args').foldl (fun tmps (t,a)=>tmps.setIfInBounds t a) lo.tmps) gO body) w∧cB μ f0 lo.tmps:=by
 have hg:fB E μ:=H.cW;obtain⟨dst,op,type,pos,after,guard⟩:=o;cases op
 case call c=>
  simp only[cH,Option.bind_eq_some_iff]at ha;obtain⟨asv,h1,ha⟩:=ha;have hr:=iZ hg hf h1;split at ha
  ·simp only[Option.bind_eq_some_iff,Option.some.injEq,Prod.mk.injEq]at ha;obtain⟨_,_,h2,_⟩:=ha;cases h2
  ·rename_i gx zb;simp only[Option.bind_eq_some_iff]at ha;obtain⟨gv,h2,ha⟩:=ha;split at ha
   ·simp at ha
   ·rename_i l0 first captured
    simp only[Option.some.injEq,Prod.mk.injEq,kb.round.injEq]at ha;obtain⟨⟨rfl,rfl⟩,rfl⟩:=ha;have wv:=aT hg hf h2;generalize hq:a.eval gx=q at wv;cases wv with
    |lit hh=>simp[ar]at hh
    |yield hb=>
     rename_i m;obtain⟨o1,o2,k1,k2,k3⟩:=H.obj l0 m hb;rw[hl]at k1;cases k1;cases k3 with
     |loop zd=>
      rename_i fn tmps d;have nM:=run_getObj_map (P:=P) k2 (fun _ _ _=>by simp);refine⟨m,c.args.toList.map a.eval,_,rfl,hb,k2,by simpa using hr,?_,zd⟩;have E4:=hr.length;have eY:(c.args.map a.eval).size=ps.toArray.size:=by
       simp at hlen E4 ⊢;omega
      simp only[execOp,resolve,zb,Sem.run_bind,Sem.run_pure,Result.andThen_ok,hq,Deferred.ofValue,invoke,Instr.yield,Instr.getLoop,nM];rw[if_neg (by simpa using eY)];have ez:(ps.toArray.zip (#[]++c.args.map a.eval))=(ps.zip (c.args.toList.map a.eval)).toArray:=by
       apply Array.ext';simp
      simp only[ez,Sem.run_pure,List.foldl_toArray]
   ·cases ha
  ·cases ha
 all_goals(simp only[cH]at ha;first|cases ha|(simp only[Option.bind_eq_some_iff,Option.some.injEq,Prod.mk.injEq,aj,reduceCtorEq,false_and,and_false,exists_false]at ha)|skip)
 case range t x=>
  obtain⟨_,_,_,_,ha⟩:=ha;split at ha
  ·split at ha<;>simp at ha
  ·cases ha
end
structure fT (F:Fence):Prop where
 fn:∀f,F.fn f
 depth:F.depth=none
 dead:F.alive=false
theorem fT.inRound {F:Fence} (h:fT F) (l:Nat):fT (F.inRound l):=⟨h.fn,h.depth,h.dead⟩
theorem fT.plain {F:Fence} (h:fT F):fT F.plain:=⟨h.fn,h.depth,h.dead⟩
theorem fT.wide:fT Fence.wide:=⟨fun _=>trivial,rfl,rfl⟩
theorem fT.ok {F:Fence} (h:fT F) (n:Nat):F.depth.isSome=true→1≤n:=by rw[h.depth];intro h;simp at h
def lF (E:Env) (base B:Nat) (μ:ba) (h:ah) (w:World) (v:Value) (h':ah):Ending→World→Prop:=
 fun e w'=>∃v' aK,e= .returned v'∧an aK v v'∧Step E base B μ h w aK h' w'
def iO (P:Program) (E:Env) (base B:Nat) (cf:eT):Prop:=
 ∀(μ:ba) (h:ah) (w:World) (g:FuncId) (args:List Value) (args':Array Value) (v:Value) (h':ah),cf g args h=some (v,h')→aq μ args args'.toList→aX E base B μ h w→
  ∀(F:Fence) (n:Nat),fT F→CallsIn F n P g args' w (lF E base B μ h w v h')
def lG (P:Program) (E:Env) (base B:Nat) (rf:dW):Prop:=
 ∀(μ:ba) (h:ah) (w:World) (l:Nat) (args:List Value) (v:Value) (h':ah) (m:MT) (f0:AF) (ps:List Tmp) (gO body:Code) (st:LoopState) (p:Option Code) (fn:FuncId) (tmps:Array Value),
  rf l args h=some (v,h')→h.get l=some (.loop st p f0 ps gO body)→μ l=some m→aX E base B μ h w→cB μ (AF.iK (ps.zip args) f0) tmps→
  ∀(F:Fence) (n:Nat),fT F→RoundIn F n P m.r fn tmps gO body w (lF E base B μ h w v h')
def lH (E:Env) (cf:eT):Prop:=∀g args h r,cf g args h=some r→(E.func g).isSome=true
def ju (rf:dW):Prop:=∀l args h r,rf l args h=some r→∃st p f0 ps gO body,h.get l=some (.loop st p f0 ps gO body)∧ps.length=args.length
section
variable {P:Program} {E:Env} {μ:ba} {f:AF} {a:Act} {base B:Nat} {h:ah} {w:World} {cf:eT} {rf:dW}
theorem lI {μ:ba}:∀{ps:List Tmp} {args args':List Value} {f:AF} {tmps:Array Value},cB μ f tmps→aq μ args args'→cB μ (AF.iK (ps.zip args) f) ((ps.zip args').foldl (fun tmps (t,a)=>tmps.setIfInBounds t a) tmps)
 |[],args,args',f,tmps,hf,_=>by simpa[AF.iK]using hf
 |p::ps,_,_,f,tmps,hf,.nil=>by simpa[AF.iK]using hf
 |p::ps,_,_,f,tmps,hf,.cons hv ht=>by
  simp only[List.zip_cons_cons,AF.iK,List.foldl_cons];exact lI (hf.set hv p) ht
theorem zh {o:Oper} {r:QY} (h:dR E base cf rf o f h=some r):∀c,o.op≠ .defer c:=by
 intro c hc;unfold dR at h;simp only[aB,bt,aV,cH,hc]at h;cases h
theorem Rg (hE:bl P E) (wK:iO P E base B cf) (zi:lG P E base B rf) (zj:lH E cf) (zk:ju rf) {F:Fence} (hF:fT F) {n:Nat} (hf:cB μ f a.tmps) (H:aX E base B μ h w) {o:Oper} {r:QY} (hr:dR E base cf rf o f h=some r)
 {next:Act→World→Prop} {Q:Exit→Act→World→Prop} (hn:∀aK v' w',an aK r.v v'→Step E base B μ h w aK r.h w'→next (a.put o.dst v') w'):o.wpIn F n P a w next Q:=by
 have hg:fB E μ:=H.cW;refine⟨fun _ _=>hF.fn _,?_⟩;rw[Oper.semAt_eq _ _ _ (zh hr)];unfold dR at hr;split at hr
 ·rename_i v hp;simp only[Option.some.injEq]at hr;subst hr;obtain⟨v',q1,q2⟩:=nL hE hg hf hp;rw[q2 w];exact hn μ v' w q1 (.refl H)
 ·split at hr
  ·rename_i q hq;simp only[Option.bind_eq_some_iff,Option.some.injEq]at hr;obtain⟨v,hv,rfl⟩:=hr;obtain⟨v',q1,q2⟩:=qZ hE hf H hq hv;rw[q2];exact hn μ v' w q1 (.refl H)
  ·split at hr
   ·rename_i md hd c9;simp only[Option.some.injEq]at hr;subst hr;obtain⟨o',k,hv,S⟩:=lC hE hg hf c9;rw[S.run w];have st:=Step.alloc (o:=md.obj h.size) H (AO.mk' w o') k (fun cs f cu aF hh=>by cases md<;>simp[Made.obj]at hh;exact⟨hh.2.1.symm,hh.2.2.1.symm⟩) (S.obj _ _ _ _ _ (fA H.fresh));exact hn _ _ _ (S.val _ _ _ (bB _ _ _)) st
   ·split at hr
    ·rename_i v h' he;simp only[Option.some.injEq]at hr;subst hr;obtain⟨aK,nx,v',w',q1,q2,q3,q4⟩:=ur hE hf H he;rw[q1];rcases q2 with rfl |⟨rfl,rfl⟩
     ·exact hn aK v' w' q3 q4
     ·exact hn aK undef w' q3 q4
    ·rename_i g args h' he;simp only[Option.bind_eq_some_iff,Option.some.injEq]at hr;obtain⟨⟨v,h2⟩,hc,rfl⟩:=hr;have uu:=zj _ _ _ _ hc;obtain⟨args',e,q1,q2⟩:=o5 hE hf H he uu;subst e;rw[q2];refine⟨hF.ok n,(wK μ h' w g args args' v h2 hc q1 H F (n - 1) hF).mono ?_⟩;rintro e w' ⟨v',aK,rfl,k1,k2⟩;exact hn aK v' w' k1 k2
    ·rename_i l args h' he;simp only[Option.bind_eq_some_iff,Option.some.injEq]at hr;obtain⟨⟨v,h2⟩,hc,rfl⟩:=hr;obtain⟨st,p,f0,ps,gO,body,hl,hlen⟩:=zk _ _ _ _ hc;have hh:h'=h:=by
      obtain⟨dst,op,type,pos,after,guard⟩:=o;cases op<;>simp only[cH]at he<;>first|cases he|skip
      all_goals simp only[Option.bind_eq_some_iff,Option.some.injEq,Prod.mk.injEq,aj,reduceCtorEq,false_and,and_false,exists_false]at he
      ·obtain⟨_,_,_,_,he⟩:=he;split at he
       ·split at he<;>simp at he
       ·cases he
      ·obtain⟨_,_,he⟩:=he;split at he
       ·first|(simp at he;done)|(obtain⟨_,_,he⟩:=he;simp at he;done)|(simp only[Option.bind_eq_some_iff]at he;obtain⟨_,_,he⟩:=he;cases he)
       ·try simp only[Option.bind_eq_some_iff]at he
        obtain⟨_,_,he⟩:=he;split at he
        ·simp at he
        ·simp only[Option.some.injEq,Prod.mk.injEq]at he;exact he.2.symm
        ·cases he
       ·cases he
     subst hh;obtain⟨m,args',lo,_,hb,hw,q1,q2,q3⟩:=o7 (P:=P) hf H he hl hlen;rw[q2];refine⟨hF.ok n,(zi μ h' w l args v h2 m f0 ps gO body st p lo.fn _ hc hl hb H (lI q3 q1) F (n - 1) hF).mono ?_⟩;rintro e w' ⟨v',aK,rfl,k1,k2⟩;exact hn aK v' w' k1 k2
    ·cases hr
theorem o8 {ops:Array Oper} (hf:cB μ f a.tmps) (o:Oper):Region.wanted o (yielded ops a.tmps)=wanted ops.toList o f:=by
 unfold Region.wanted wanted;cases hgd:o.guard with
 |none=>rfl
 |some jw=>
  obtain⟨j,want⟩:=jw;simp only
  unfold yielded;have e:ops.toList[j]? =ops[j]? :=by simp
  rw[e];cases ht:(ops[j]?).bind (·.dst)with
  |none=>simp
  |some t=>
   simp only[Option.bind_some];have hv:=hf.get t;by_cases bj:t<a.tmps.size
   ·have e2:a.tmps.getD t undef=a.tmps[t]:=by simp[bj]
    rw[e2]at hv;rw[Array.getElem?_eq_getElem bj];generalize a.tmps[t]=u at hv;generalize f.get t=c at hv;cases hv with
    |lit hh=>cases u<;>simp
    |yV hh=>rcases hh with rfl |⟨_,_,rfl⟩<;>rfl
    |_=>rfl
   ·have e2:a.tmps.getD t undef=undef:=by simp[bj]
    rw[e2]at hv;have e3:a.tmps[t]? =none:=Array.getElem?_eq_none (Nat.le_of_not_lt bj);rw[e3];generalize f.get t=c at hv;unfold undef at hv;cases hv with
    |lit hh=>simp[ar]at hh
    |yV hh=>rcases hh with hh|⟨_,_,hh⟩<;>cases hh
    |tuple _ _=>rfl
theorem zl (hE:bl P E) (wK:iO P E base B cf) (zi:lG P E base B rf) (zj:lH E cf) (zk:ju rf) {F:Fence} (hF:fT F) {n:Nat} {ops:Array Oper} {Q:Exit→Act→World→Prop}:∀(rest:List Oper) (k:Nat) (μ:ba) (f:AF) (h:ah) (a:Act) (w:World) (f':AF) (h':ah),
 (∀j,rest[j]? =ops[k+j]?)→te E base cf rf ops.toList rest f h=some (f',h')→cB μ f a.tmps→aX E base B μ h w→
 (∀aK a' w',cB aK f' a'.tmps→a'.defers=a.defers→Step E base B μ h w aK h' w'→Q .normal a' w')→wpOpsIn F n P ops Q (List.range' k rest.length) a w
 |[],k,μ,f,h,a,w,f',h',_,ha,hf,H,hQ=>by
  simp only[te,Option.some.injEq,Prod.mk.injEq]at ha;obtain⟨rfl,rfl⟩:=ha;exact hQ μ a w hf rfl (.refl H)
 |o::rest,k,μ,f,h,a,w,f',h',hk,ha,hf,H,hQ=>by
  have h0:ops[k]? =some o:=by simpa using(hk 0).symm
  have nN:∀j,rest[j]? =ops[k+1+j]? :=fun j=>by have:=hk (j+1);simpa[Nat.add_assoc,Nat.add_comm 1 j]using this
  simp only[List.length_cons,List.range'_succ,wpOpsIn,h0,o8 hf];simp only[te]at ha;split at ha
  ·rename_i hw;rw[if_pos hw];simp only[Option.bind_eq_some_iff]at ha;obtain⟨r,hr,ha⟩:=ha;refine Rg hE wK zi zj zk hF hf H hr fun aK v' w' q1 q2=>?_;refine zl hE wK zi zj zk hF rest (k+1) aK (f.put o.dst r.v) r.h _ w' f' h' nN ha ((hf.mono q2.le).put q1 o.dst) q2.rel fun su a2 w2 p1 p2 p3=>?_;exact hQ su a2 w2 p1 (by rw[p2];cases o.dst<;>rfl) (q2.trans p3)
  ·rename_i hw;rw[if_neg (by rw[hw];simp)];refine⟨fun _ _=>hF.fn _,?_⟩;refine zl hE wK zi zj zk hF rest (k+1) μ (f.put o.dst undef) h _ w f' h' nN ha (hf.put (.undef μ) o.dst) H fun su a2 w2 p1 p2 p3=>?_;exact hQ su a2 w2 p1 (by rw[p2];cases o.dst<;>rfl) p3
end
def mT:Ex→Exit
 | .normal=>.normal
 | .exit id=>.exit id
 | .ret=>.ret
structure rq (W0:Nat) (μ:ba) (w:World) (d:Deferred) (r:Nat):Prop where
 tg:d.target= .collected r
 obj:w.heap[r]? =some (.deferred (some []))
 apart:∀b m,μ b=some m→m.r≠r
 new:W0≤r
inductive bE (W0:Nat) (μ:ba) (w:World):List Deferred→List Nat→Prop
 |nil:bE W0 μ w [] []
 |cons {d:Deferred} {r:Nat} {ds:List Deferred} {rs:List Nat} (h:rq W0 μ w d r) (hn:r∉rs) (t:bE W0 μ w ds rs):bE W0 μ w (d::ds) (r::rs)
section
variable {P:Program} {E:Env} {base B:Nat}
theorem rq.step {W0:Nat} {μ aK:ba} {h h':ah} {w w':World} {d:Deferred} {r:Nat} (k:rq W0 μ w d r) (s:Step E base B μ h w aK h' w'):rq W0 aK w' d r:=by
 have bj:r<w.heap.size:=(Array.getElem?_eq_some_iff.1 k.obj).1;refine⟨k.tg,?_,?_,k.new⟩
 ·rw[s.grow.bd r bj (fun b m hb hr=>absurd hr (k.apart b m hb))];exact k.obj
 ·intro b m hb hr;cases h0:μ b with
  |some m0=>
   have:=s.le b m0 h0;rw[hb]at this;cases this;exact k.apart b m h0 hr
  |none=>
   obtain⟨_,_,h3⟩:=s.new b m h0 hb;rcases h3 with h3|⟨b0,m0,_,h4,h5⟩
   ·omega
   ·exact k.apart b0 m0 h4 (h5.trans hr)
theorem bE.step {W0:Nat} {μ aK:ba} {h h':ah} {w w':World} {ds:List Deferred} {rs:List Nat} (k:bE W0 μ w ds rs) (s:Step E base B μ h w aK h' w'):bE W0 aK w' ds rs:=by
 induction k with
 |nil=>exact .nil
 |cons h hn _ ih=>exact .cons (h.step s) hn ih
theorem aX.apart {μ:ba} {h:ah} {w w':World} (H:aX E base B μ h w) {r:Nat} {o:Obj} (hu:yY w r o w') (ha:∀b m,μ b=some m→m.r≠r):aX E base B μ h w':=
 ⟨H.fy,H.high,fun b m hb=>by
  obtain⟨p,p',k1,k2,k3⟩:=H.obj b m hb;exact⟨p,p',k1,by rw[hu.get,if_neg (ha b m hb)];exact k2,k3⟩,H.own,H.alias,H.c8,H.cW,by rw[hu.size];exact H.low,H.lq,H.wf,H.root⟩
theorem Step.apart {μ aK:ba} {h h':ah} {w w1 w2:World} (s:Step E base B μ h w aK h' w1) {r:Nat} {o:Obj} (hu:yY w1 r o w2) (ha:∀b m,aK b=some m→m.r≠r) (hn:w.heap.size≤r):Step E base B μ h w aK h' w2:=
 ⟨s.rel.apart hu ha,⟨hu.tape.trans s.grow.tape,hu.os.trans s.grow.os,hu.output.trans s.grow.output,by rw[hu.size];exact s.grow.size,fun k hk hh=>by rw[hu.get,if_neg om];exact s.grow.bd k hk hh⟩,s.le,s.new,s.ET,s.eY⟩
theorem aX.YA {μ:ba} {h:ah} {w w':World} (H:aX E base B μ h w) {o:Obj} (ha:AO w o w'):aX E base B μ h w':=
 ⟨H.fy,H.high,fun b m hb=>by
  obtain⟨p,p',k1,k2,k3⟩:=H.obj b m hb;have:=H.lt hb;exact⟨p,p',k1,by rw[ha.get,if_neg om];exact k2,k3⟩,H.own,H.alias,H.c8,H.cW,by rw[ha.size];have:=H.low;omega,H.lq,H.wf,H.root⟩
theorem Step.U5 {μ:ba} {h:ah} {w w':World} (H:aX E base B μ h w) {o:Obj} (ha:AO w o w'):Step E base B μ h w μ h w':=
 ⟨H.YA ha,⟨ha.tape,ha.os,ha.output,by rw[ha.size];omega,fun r hr _=>by rw[ha.get,if_neg om]⟩,μ.le_refl,fun b m h0 h1=>by simp[h0]at h1,fun _ _ _=>rfl,Nat.le_refl _⟩
theorem sC (hE:bl P E) {μ:ba} {f:AF} {h:ah} {w:World} {tmps:Array Value} {fn:Func} {vs:List Value} (hf:cB μ f tmps) (H:aX E base B μ h w) (hr:cL E h f fn.results.toList=some vs):
 ∃v',(results fn tmps).run P w= .ok v' w∧an μ (cz vs) v':=by
 have key:∀(l:List ResultVar) (vs:List Value),cL E h f l=some vs→∃lB,aq μ vs lB∧(l.mapM (m:=Sem) fun
  | .tmp t=>pure (tmps.getD t undef)
  | .cell a t=>do loadVar t (←asAddr (tmps.getD a undef))).run P w= .ok lB w:=by
  intro l
  induction l with
  |nil=>intro vs hv;simp only[cL,Option.some.injEq]at hv;subst hv;exact⟨[],.nil,by simp⟩
  |cons x l ih=>
   intro vs hv;cases x with
   |tmp t=>
    simp only[cL,Option.bind_eq_some_iff,Option.some.injEq]at hv;obtain⟨YB,h1,rfl⟩:=hv;obtain⟨lB,r1,r2⟩:=ih YB h1;exact⟨tmps.getD t undef::lB,.cons (hf.get t) r1,by simp only[List.mapM_cons,Sem.run_bind,Sem.run_pure,Result.andThen_ok,r2]⟩
   |cell a t=>
    simp only[cL,Option.bind_eq_some_iff,Option.some.injEq]at hv;obtain⟨p,h1,⟨ag,n⟩,h2,c,h3,v,h4,YB,h5,rfl⟩:=hv;have ha:=hf.get a;rw[jq h1]at ha;obtain⟨m,hb,ex⟩:=ha.iX;obtain⟨l',r1,r2⟩:=H.xg hb h3;obtain⟨v',q1,q2⟩:=ia h4 r1;have hl:l'.length=n:=by rw[←r1.length];exact(H.ai hb h3).1
    obtain⟨lB,s1,s2⟩:=ih YB h5;refine⟨v'::lB,.cons q2 s1,?_⟩;have lv:=mQ (P:=P) hE h2 hl r2 q1;have YC:(asAddr (tmps.getD a undef)).run P w= .ok ⟨m.r,m.s+p.2,none⟩ w:=by rw[ex];rfl
    rw[List.mapM_cons];simp only[Sem.run_bind,YC,Sem.run_pure,Result.andThen_ok,lv];rw[s2];rfl
 obtain⟨lB,r1,r2⟩:=key _ _ hr
 have hm:(fn.results.mapM (m:=Sem) fun
  | .tmp t=>pure (tmps.getD t undef)
  | .cell a t=>do loadVar t (←asAddr (tmps.getD a undef))).run P w= .ok lB.toArray w:=by
  rw[Array.mapM_eq_mapM_toList];simp only[Sem.run_map,r2,Result.andThen_ok]
 have De:(results fn tmps).run P w= .ok (if h:lB.toArray.size=1 then lB.toArray[0]else .tuple lB.toArray) w:=by
  show Sem.run P (do
   let us ←fn.results.mapM (m:=Sem) fun
    | .tmp t=>pure (tmps.getD t undef)
    | .cell a t=>do loadVar t (←asAddr (tmps.getD a undef))
   pure (if h:us.size=1 then us[0]else .tuple us)) w=_
  rw[Sem.run_bind,hm];rfl
 refine⟨_,De,?_⟩;cases r1 with
 |nil=>exact .da (by simpa using aq.nil)
 |cons hv ht=>cases ht with
  |nil=>simpa[cz]using hv
  |cons JE ht=>simp only[cz];exact .da (by simpa using aq.cons hv (.cons JE ht))
theorem lJ {F:Fence} {n:Nat} {fn:Func} {tmps:Array Value} {R:Ending→World→Prop} {ic μ:ba} {h0 h:ah} {w0:World}:∀(ds:List Deferred) (rs:List Nat) (w:World),bE w0.heap.size μ w ds rs→Step E base B ic h0 w0 μ h w→
 (∀w',Step E base B ic h0 w0 μ h w'→∃v,(results fn tmps).run P w'= .ok v w'∧R (.returned v) w')→LeavesInM F n P fn tmps R ds .returning w
 |[],_,w,_,s,hR=>hR w s
 |d::ds,_,w,.cons (r:=r) (rs:=rs) hk hn ht,s,hR=>by
  refine⟨by simp,.inl ⟨r,{w with heap:=w.heap.setIfInBounds r (.deferred none)},hk.tg,?_,?_⟩⟩
  ·unfold Instr.takeDeferred;simp only[Sem.run_bind,run_getObj_map (P:=P) hk.obj (fun _ _ _=>by simp),Result.andThen_ok,bP (P:=P) hk.obj (fun _ _ _=>by simp),Sem.run_pure]
  ·have bj:r<w.heap.size:=(Array.getElem?_eq_some_iff.1 hk.obj).1;have hu:=yY.set w r (.deferred none) bj;refine lJ ds rs _ ?_ (s.apart hu hk.apart hk.new) hR;have:∀{ds:List Deferred} {rs:List Nat},bE w0.heap.size μ w ds rs→r∉rs→bE w0.heap.size μ {w with heap:=w.heap.setIfInBounds r (.deferred none)} ds rs:=by
    intro ds rs k
    induction k with
    |nil=>intro _;exact .nil
    |cons h1 h2 _ ih=>
     intro NC;simp only[List.mem_cons,not_or]at NC;exact .cons ⟨h1.tg,by rw[hu.get,if_neg (fun e=>NC.1 e.symm)];exact h1.obj,h1.apart,h1.new⟩ h2 (ih NC.2)
   exact this ht hn
def zm (P:Program) (E:Env) (base B:Nat):Prop:=
 ∀(cf:eT) (rf:dW),iO P E base B cf→lG P E base B rf→lH E cf→ju rf→∀(ops:Array Oper) (f:AF) (h:ah) (f':AF) (h':ah) (ru:List dD),
  kE ops.toList=true→iM f.n ops.toList=true→jP E base cf rf ops.toList ops.toList f h=some (f',h',ru)→jR (cI ops.toList []) 0 ru=true→
  ∀(μ:ba) (a:Act) (w:World),cB μ f a.tmps→aX E base B μ h w→∀(F:Fence) (n id:Nat) (Q:Exit→Act→World→Prop),fT F→
  (∀aK a' w',cB aK f' a'.tmps→a'.defers=a.defers→Step E base B μ h w aK h' w'→Q .normal a' w')→(Code.region id ops true).wpIn F n P Q a w
def Df (P:Program) (E:Env) (base B k:Nat):Prop:=
 ∀(c:Code) (f:AF) (h:ah) (ex:Ex) (f':AF) (h':ah),aS E base k c f h=some (ex,f',h')→
  ∀(μ:ba) (a:Act) (w:World) (W0:Nat) (rs:List Nat),cB μ f a.tmps→aX E base B μ h w→bE W0 μ w a.defers rs→W0≤w.heap.size→
  ∀(F:Fence) (n:Nat) (Q:Exit→Act→World→Prop),fT F→(F.round=none∨aO c=true)→
  (∀aK a' w' A4,cB aK f' a'.tmps→bE W0 aK w' a'.defers A4→Step E base B μ h w aK h' w'→Q (mT ex) a' w')→c.wpIn F n P Q a w
theorem uv {μ:ba}:∀{args args':List Value} {i:Nat} {f:AF} {tmps:Array Value},aq μ args args'→cB μ f tmps→cB μ (AF.mF args i f) ((args'.zipIdx i).foldl (fun t p=>t.setIfInBounds p.2 p.1) tmps)
 |_,_,i,f,tmps,.nil,hf=>by simpa[AF.mF]using hf
 |_,_,i,f,tmps,.cons hv ht,hf=>by
  simp only[AF.mF,List.zipIdx_cons,List.foldl_cons];exact uv ht (hf.set hv i)
theorem xk {μ:ba} {args:List Value} {args':Array Value} {n:Nat} (hr:aq μ args args'.toList) (hn:args.length≤n):cB μ (AF.enter args n) (args'++Array.replicate (n - args'.size) undef):=by
 have hl:args.length=args'.size:=by simpa using hr.length
 have h0:cB μ ⟨.nil,n⟩ (Array.replicate n undef):=by
  refine⟨by simp,fun t=>?_⟩;have:(AF.get ⟨.nil,n⟩ t)=undef:=rfl;rw[this];by_cases h:t<n<;>simp[h]<;>exact .undef μ
 have:=uv (i:=0) hr h0;have e:((args'.toList.zipIdx 0).foldl (fun t p=>t.setIfInBounds p.2 p.1) (Array.replicate n undef))=args'++Array.replicate (n - args'.size) undef:=by
  have zf:=y8 args'.toList 0 0 (Array.replicate n undef) (by simp;omega);simp only[Nat.zero_add]at zf;apply Array.ext
  ·rw[zf.1];simp;omega
  ·intro i h1 h2;have:=zf.2 i;rw[Array.getElem?_eq_getElem h1]at this;rw[←Option.some.injEq,this];by_cases hi:i<args'.size
   ·rw[if_pos (by simp;exact hi)];simp[hi]
   ·rw[if_neg (by simp;omega)];have M8:i<n:=by
     rw[zf.1]at h1;simpa using h1
    simp[hi,M8,Array.getElem_append]
 rw[←e];exact this
theorem zn (run:wE):lH E (fR E base run):=by
 intro g args h r hr;unfold fR at hr;simp only[Option.bind_eq_some_iff]at hr;obtain⟨fn,h1,_⟩:=hr;simp[h1]
theorem A5 (run:wE):ju (fN base run):=by
 intro l args h r hr;unfold fN at hr;simp only[aj]at hr;obtain⟨_,hr⟩:=hr;split at hr
 ·rename_i p f ps gO body hg;simp only[aj,Bool.and_eq_true,beq_iff]at hr;exact⟨_,_,_,_,_,_,hg,hr.1.1.1⟩
 ·cases hr
def iy (P:Program) (E:Env) (base B:Nat):Prop:=iO P E base B (E.tc base)
theorem JF (hE:bl P E) (hO:iy P E base B) {k:Nat} (hk:Df P E base B k):iO P E base B (fR E base (aS E base k)):=by
 intro μ h w g args args' v h' hc hr H F n hF;unfold fR at hc;simp only[Option.bind_eq_some_iff]at hc;obtain⟨fn,h1,hc⟩:=hc;split at hc
 ·rename_i r ho;simp only[Option.some.injEq]at hc;subst hc;exact hO μ h w g args args' v h' ho hr H F n hF
 ·simp only[Option.bind_eq_some_iff,aj,az]at hc;obtain⟨c,h2,hn,hc⟩:=hc;obtain⟨f1,f2,f3⟩:=hE.func _ _ h1
  have body:∀ex f1' wo,aS E base k c (AF.enter args fn.ntmps) h=some (ex,f1',wo)→(mT ex= .normal∨mT ex= .ret)→(cL E wo f1' fn.results.toList).bind (fun vs=>some (cz vs,wo))=some (v,h')→
   CallsIn F.plain n P g args' w (lF E base B μ h w v h'):=by
   intro ex fe he fC hex De;simp only[Option.bind_eq_some_iff,Option.some.injEq,Prod.mk.injEq]at De;obtain⟨vs,h3,rfl,rfl⟩:=De;refine callsIn_of_wp_marks f1 h2 (hF.fn _) ?_ rfl;refine hk c _ h ex fe he fC μ _ w w.heap.size [] (xk hr hn) H .nil (Nat.le_refl _) F.plain n _ hF.plain (.inl rfl) ?_;intro aK a' w' A4 q1 q2 q3
   have lv:LeavesInM F.plain n P fn a'.tmps (lF E base B μ h w (cz vs) he) a'.defers .returning w':=
    lJ a'.defers A4 w' q2 q3 fun w2 s2=>by
     obtain⟨v',p1,p2⟩:=sC (P:=P) hE q1 s2.rel h3;exact⟨v',p1,v',aK,rfl,p2,s2⟩
   rcases hex with e|e<;>rw[e]<;>exact lv
  have fin:CallsIn F.plain n P g args' w (lF E base B μ h w v h'):=by
   split at hc
   ·rename_i fe he fC;exact body _ _ _ fC (.inl rfl) hc
   ·rename_i fe he fC;exact body _ _ _ fC (.inr rfl) hc
   ·cases hc
  exact fin
end
section
variable {P:Program} {E:Env} {base B:Nat}
theorem run_getLoop {w:World} {r:Nat} {lo:Loop} (h:w.heap[r]? =some (.loop lo)):(Instr.getLoop r).run P w= .ok lo w:=by
 unfold Instr.getLoop;simp only[Sem.run_bind,run_getObj_map (P:=P) h (fun _ _ _=>by simp),Result.andThen_ok,Sem.run_pure]
theorem kI {μ:ba} {h:ah} {w:World} (H:aX E base B μ h w) {l:Nat} {m:MT} (hb:μ l=some m) (bh:base≤l) {st:LoopState} {p:Option Code} {f0:AF} {ps:List Tmp} {gO body:Code} (hg:h.get l=some (.loop st p f0 ps gO body)) (E5:LoopState) (p':Option Code):
 ∃lo:Loop,w.heap[m.r]? =some (.loop lo)∧lo.state=st∧lo.pending=p∧Step E base B μ h w μ (h.put l (.loop E5 p' f0 ps gO body)) {w with heap:=w.heap.setIfInBounds m.r (.loop {lo with state:=E5,pending:=p'})}:=by
 obtain⟨o1,o2,k1,k2,k3⟩:=H.obj l m hb;rw[hg]at k1;cases k1;cases k3 with
 |loop hf=>
  refine⟨_,k2,rfl,rfl,?_⟩;exact Step.put H hb bh hg rfl rfl (yY.set w m.r _ (H.lt hb)) (.loop hf)
theorem ND {k:Nat} (hk:Df P E base B k):lG P E base B (fN base (aS E base k)):=by
 intro μ h w l args v h' m f0 ps gO body st p fn tmps hr hl hb H hf F n hF;unfold fN at hr;simp only[aj,az]at hr;obtain⟨bh,hr⟩:=hr;rw[hl]at hr;cases st with
 |ready=>
  simp only[aj,Bool.and_eq_true,beq_iff]at hr;obtain⟨⟨⟨hlen,CV⟩,mD⟩,hr⟩:=hr;split at hr
  ·rename_i f1 h1 YD;split at hr
   ·rename_i p1 YE jS oq iR CU;simp only[Option.bind_eq_some_iff]at hr;obtain⟨⟨ex,f2,h2⟩,U6,hr⟩:=hr;simp only at hr;split at hr
    ·rename_i st2 p2 YF sD Rh JG E4;refine roundIn_of_wpIn (hF.fn _) ?_;refine hk gO _ h .normal f1 h1 YD μ _ w w.heap.size [] hf H .nil (Nat.le_refl _) (F.inRound m.r) n _ (hF.inRound _) (.inr CV) ?_;intro e7 a1 w1 pW q1 q2 s1;have oW:=s1.le _ _ hb;obtain⟨U7,e1,e2,e3,s2⟩:=kI s1.rel oW bh CU .busy p1;have Ri:Step E base B e7 h1 w1 e7 (h1.put l (.loop .busy p1 YE jS oq iR)) {w1 with heap:=w1.heap.setIfInBounds m.r (.loop {U7 with state:=.busy})}:=by
      rw[←e3]at s2 ⊢;exact s2
     refine⟨{w1 with heap:=w1.heap.setIfInBounds m.r (.loop {U7 with state:=.busy})},?_,?_⟩
     ·unfold Instr.beginRound;simp only[Sem.run_bind,run_getLoop (P:=P) e1,Result.andThen_ok,bP (P:=P) e1 (fun _ _ _=>by simp),e2,Sem.run_pure]
     refine hk body f1 _ ex f2 h2 U6 e7 a1 _ w.heap.size pW q1 Ri.rel (q2.step Ri) (by rw[Array.size_setIfInBounds];exact s1.grow.size) (F.inRound m.r) n _ (hF.inRound _) (.inr mD) ?_;intro tt a3 w3 rs3 q3 q4 s3;have lK:=(s1.trans Ri);have I9:=s3.le _ _ oW;have key:∀(E5:LoopState) (jump:Option Code),(jump.isNone=true→E5= .ready)→(jump.isNone=false→E5= .done)→∃w4,(Instr.endRound m.r jump).run P w3= .ok (.bool jump.isNone) w4∧Step E base B tt h2 w3 tt (h2.put l (.loop E5 jump YF sD Rh JG)) w4:=by
      intro E5 jump YG P9;obtain⟨NF,d1,d2,d3,s4⟩:=kI s3.rel I9 bh E4 E5 jump;refine⟨_,?_,s4⟩;unfold Instr.endRound;simp only[Sem.run_bind,run_getLoop (P:=P) d1,Result.andThen_ok,bP (P:=P) d1 (fun _ _ _=>by simp),Sem.run_pure];cases hj:jump.isNone with
      |true=>rw[YG hj];simp
      |false=>rw[P9 hj];simp
     cases ex with
     |normal=>
      simp only[Option.some.injEq,Prod.mk.injEq]at hr;obtain⟨rfl,rfl⟩:=hr;obtain⟨w4,k1,k2⟩:=key .ready none (fun _=>rfl) (fun h=>by simp at h);exact⟨_,w4,k1,_,tt,rfl,.bool _ _,(lK.trans s3).trans k2⟩
     |ret=>
      simp only[Option.some.injEq,Prod.mk.injEq]at hr;obtain⟨rfl,rfl⟩:=hr;obtain⟨w4,k1,k2⟩:=key .done (some .ret) (fun h=>by simp at h) (fun _=>rfl);exact⟨_,w4,k1,_,tt,rfl,.bool _ _,(lK.trans s3).trans k2⟩
     |exit id=>
      simp only[Option.some.injEq,Prod.mk.injEq]at hr;obtain⟨rfl,rfl⟩:=hr;obtain⟨w4,k1,k2⟩:=key .done (some (.exit id)) (fun h=>by simp at h) (fun _=>rfl);exact⟨_,w4,k1,_,tt,rfl,.bool _ _,(lK.trans s3).trans k2⟩
    ·cases hr
   ·cases hr
  ·cases hr
 |busy=>cases hr
 |done=>cases hr
 |exhausted=>cases hr
theorem codeOk (hE:bl P E) (hO:iy P E base B) (hD:zm P E base B):∀k,Df P E base B k∧
 (∀(b:Code) (f:AF) (h:ah) (ex:Ex) (f':AF) (h':ah),aS E base k (.loop b) f h=some (ex,f',h')→
  ∀(μ:ba) (a:Act) (w:World) (W0:Nat) (rs:List Nat),cB μ f a.tmps→aX E base B μ h w→bE W0 μ w a.defers rs→W0≤w.heap.size→
  ∀(F:Fence) (n:Nat) (Q:Exit→Act→World→Prop),fT F→(F.round=none∨aO b=true)→
  (∀aK a' w' A4,cB aK f' a'.tmps→bE W0 aK w' a'.defers A4→Step E base B μ h w aK h' w'→Q (mT ex) a' w')→Code.roundsIn F n P b Q k a w):=by
 intro k
 induction k with
 |zero=>exact⟨fun c f h ex f' h' hr=>by simp[aS]at hr,fun b f h ex f' h' hr=>by simp[aS]at hr⟩
 |succ k ih=>
  obtain⟨hk,JH⟩:=ih;have pX:=JF hE hO hk;have zo:=ND hk
  have A6:∀(b:Code) (f:AF) (h:ah) (ex:Ex) (f':AF) (h':ah),aS E base (k+1) (.loop b) f h=some (ex,f',h')→
   ∀(μ:ba) (a:Act) (w:World) (W0:Nat) (rs:List Nat),cB μ f a.tmps→aX E base B μ h w→bE W0 μ w a.defers rs→W0≤w.heap.size→
   ∀(F:Fence) (n:Nat) (Q:Exit→Act→World→Prop),fT F→(F.round=none∨aO b=true)→
   (∀aK a' w' A4,cB aK f' a'.tmps→bE W0 aK w' a'.defers A4→Step E base B μ h w aK h' w'→Q (mT ex) a' w')→Code.roundsIn F n P b Q (k+1) a w:=by
   intro b f h ex f' h' hr μ a w W0 rs hf H hm hW F n Q hF uw hQ;simp only[aS]at hr;rw[roundsIn_succ];split at hr
   ·rename_i f1 h1 hb;refine hk b f h .normal f1 h1 hb μ a w W0 rs hf H hm hW F n _ hF uw fun e7 a1 w1 pW q1 q2 s1=>?_;exact JH b f1 h1 ex f' h' hr e7 a1 w1 W0 pW q1 s1.rel q2 (Nat.le_trans hW s1.grow.size) F n Q hF uw fun su a2 w2 Rj p1 p2 s2=>hQ su a2 w2 Rj p1 p2 (s1.trans s2)
   ·rename_i U8;refine hk b f h ex f' h' hr μ a w W0 rs hf H hm hW F n _ hF uw fun e7 a1 w1 pW q1 q2 s1=>?_;have:=hQ e7 a1 w1 pW q1 q2 s1;cases ex with
    |normal=>exact(U8 _ _ hr).elim
    |exit id=>exact this
    |ret=>exact this
  refine⟨?_,A6⟩;intro c f h ex f' h' hr μ a w W0 rs hf H hm hW F n Q hF uw hQ;cases c with
  |skip=>
   simp only[aS,Option.some.injEq,Prod.mk.injEq]at hr;obtain⟨rfl,rfl,rfl⟩:=hr;exact wpIn_skip (hQ μ a w rs hf hm (.refl H))
  |exit id=>
   simp only[aS,Option.some.injEq,Prod.mk.injEq]at hr;obtain⟨rfl,rfl,rfl⟩:=hr;exact wpIn_exit (hQ μ a w rs hf hm (.refl H))
  |ret=>
   simp only[aS,Option.some.injEq,Prod.mk.injEq]at hr;obtain⟨rfl,rfl,rfl⟩:=hr;exact wpIn_ret (hQ μ a w rs hf hm (.refl H))
  |seq x y=>
   simp only[aS]at hr;have hx:F.round=none∨aO x=true:=uw.imp id fun h=>by simp[aO]at h;exact h.1
   have hy:F.round=none∨aO y=true:=uw.imp id fun h=>by simp[aO]at h;exact h.2
   refine wpIn_seq ?_;split at hr
   ·rename_i f1 h1 hb;refine hk x f h .normal f1 h1 hb μ a w W0 rs hf H hm hW F n _ hF hx fun e7 a1 w1 pW q1 q2 s1=>?_;exact hk y f1 h1 ex f' h' hr e7 a1 w1 W0 pW q1 s1.rel q2 (Nat.le_trans hW s1.grow.size) F n Q hF hy fun su a2 w2 Rj p1 p2 s2=>hQ su a2 w2 Rj p1 p2 (s1.trans s2)
   ·rename_i U8;refine hk x f h ex f' h' hr μ a w W0 rs hf H hm hW F n _ hF hx fun e7 a1 w1 pW q1 q2 s1=>?_;have:=hQ e7 a1 w1 pW q1 q2 s1;cases ex with
    |normal=>exact(U8 _ _ hr).elim
    |exit id=>exact this
    |ret=>exact this
  |cond cx x y=>
   simp only[aS,Option.bind_eq_some_iff]at hr;obtain⟨v,h1,b,h2,h3⟩:=hr;have e:=uj h2;subst e;have hc:=(aT H.cW hf h1).ao rfl;have hx:F.round=none∨aO x=true:=uw.imp id fun h=>by simp[aO]at h;exact h.1
   have hy:F.round=none∨aO y=true:=uw.imp id fun h=>by simp[aO]at h;exact h.2
   cases b with
   |true=>exact wpIn_cond_true hc (hk x f h ex f' h' h3 μ a w W0 rs hf H hm hW F n Q hF hx hQ)
   |false=>exact wpIn_cond_false hc (hk y f h ex f' h' h3 μ a w W0 rs hf H hm hW F n Q hF hy hQ)
  |block id b=>
   simp only[aS]at hr;have bJ:F.round=none∨aO b=true:=uw.imp (fun h=>h) fun h=>by simpa[aO]using h
   refine wpIn_block ?_;split at hr
   ·rename_i lh f1 h1 hb;refine hk b f h (.exit lh) f1 h1 hb μ a w W0 rs hf H hm hW F n _ hF bJ fun e7 a1 w1 pW q1 q2 s1=>?_;rw[bG]at hr;show(if lh=id then Q .normal a1 w1 else Q (.exit lh) a1 w1);by_cases e:lh=id
    ·rw[if_pos (beq_iff.2 e)]at hr;simp only[Option.some.injEq,Prod.mk.injEq]at hr;obtain⟨rfl,rfl,rfl⟩:=hr;rw[if_pos e];exact hQ e7 a1 w1 pW q1 q2 s1
    ·rw[if_neg (fun hh=>e (beq_iff.1 hh))]at hr;simp only[Option.some.injEq,Prod.mk.injEq]at hr;obtain⟨rfl,rfl,rfl⟩:=hr;rw[if_neg e];exact hQ e7 a1 w1 pW q1 q2 s1
   ·rename_i U8;refine hk b f h ex f' h' hr μ a w W0 rs hf H hm hW F n _ hF bJ fun e7 a1 w1 pW q1 q2 s1=>?_;have:=hQ e7 a1 w1 pW q1 q2 s1;cases ex with
    |normal=>exact this
    |exit lh=>exact(U8 _ _ _ hr).elim
    |ret=>exact this
  |loop b=>
   exact wpIn_loop_rounds (k+1) (A6 b f h ex f' h' hr μ a w W0 rs hf H hm hW F n Q hF (uw.imp id fun h=>by simpa[aO]using h) hQ)
  |region id ops draw=>
   simp only[aS,jT]at hr;cases draw with
   |false=>
    simp only[Option.bind_eq_some_iff,Option.some.injEq,Prod.mk.injEq]at hr;obtain⟨⟨f1,h1⟩,hb,rfl,rfl,rfl⟩:=hr;refine wpIn_region ?_;have:=zl hE pX zo (zn _) (A5 _) hF (n:=n) (ops:=ops) (Q:=Q) ops.toList 0 μ f h a w f1 h1 (fun j=>by simp) hb hf H fun e7 a1 w1 q1 q2 s1=>hQ e7 a1 w1 rs q1 (by rw[q2];exact hm.step s1) s1;rw[List.range_eq_range',←Array.length_toList];exact this
   |true=>
    simp only[aj,Bool.and_eq_true,Option.bind_eq_some_iff,Option.some.injEq,Prod.mk.injEq]at hr;obtain⟨⟨hs,hd⟩,⟨f1,h1,ru⟩,hb,hp,rfl,rfl,rfl⟩:=hr;exact hD _ _ pX zo (zn _) (A5 _) ops f h f1 h1 ru hs hd hb hp μ a w hf H F n id Q hF fun e7 a1 w1 q1 q2 s1=>hQ e7 a1 w1 rs q1 (by rw[q2];exact hm.step s1) s1
  |rangeFunc g ps gO body=>
   have CW:F.round=none:=uw.resolve_right (by simp[aO]);simp only[aS,Option.bind_eq_some_iff,aj,az]at hr;obtain⟨gv,h1,bh,hr⟩:=hr;split at hr
   ·rename_i gid first captured
    simp only[Option.bind_eq_some_iff]at hr;obtain⟨⟨rv,h2⟩,hc,hr⟩:=hr;simp only at hr;have wv:=aT H.cW hf h1;generalize hq:a.eval g=q at wv;cases wv with
    |lit hh=>simp[ar]at hh
    |func t1 t2 t3 t4=>
     rename_i o6 gZ;refine wpIn_rangeFunc fun fn _=>?_
     let wA:World:={w with heap:=w.heap.push (.deferred (some []))}
     let lo:Loop:={state:=.ready,pending:=none,fn:=fn,tmps:=a.tmps,params:=ps,assign:=gO,body:=body,defers:=w.heap.size}
     let wB:World:={wA with heap:=wA.heap.push (.loop lo)}
     have sA:Step E base B μ h w μ h wA:=Step.U5 H (AO.mk' w _);have YH:wA.heap.size=w.heap.size+1:=by simp[wA]
     have sB:=Step.alloc (o:=.loop .ready none f ps.toList gO body) sA.rel (AO.mk' wA (.loop lo)) 0 (fun _ _ _ _ hh=>by cases hh) (by
      have:=gP.loop (μ:=jk μ h.size ⟨wA.heap.size,0,0⟩) (h:=h.push (.loop .ready none f ps.toList gO body)) (base:=base) (b:=h.size) (m:=⟨wA.heap.size,0,0⟩) (st:=.ready) (p:=none) (ps:=ps.toList) (gO:=gO) (body:=body) (fn:=fn) (d:=w.heap.size) (hf.mono (fA H.fresh));simpa using this)
     let mk:Deferred:={target:=.collected w.heap.size,args:= #[]}
     have Uc:rq W0 μ wA mk w.heap.size:=⟨rfl,by simp[wA],fun b m hb he=>by have:=H.lt hb;omega,hW⟩;have NC:w.heap.size∉rs:=by
      have:∀{ds:List Deferred} {rs:List Nat},bE W0 μ w ds rs→∀r∈rs,r<w.heap.size:=by
       intro ds rs k
       induction k with
       |nil=>intro r hr;simp at hr
       |cons h1 _ _ ih=>intro r hr;rcases List.mem_cons.1 hr with rfl |hr
                        ·exact(Array.getElem?_eq_some_iff.1 h1.obj).1
                        ·exact ih r hr
      intro ux;have:=this hm _ ux;omega
     have hmarks:bE W0 μ wA (mk::a.defers) (w.heap.size::rs):=.cons Uc NC (hm.step sA)
     let args':Array Value:=o6++ #[.func (.yield wA.heap.size) #[] #[]]++gZ
     have uu:=zn (E:=E) _ _ _ _ _ hc;obtain⟨U9,Rk⟩:=Option.isSome_iff_exists.1 uu;obtain⟨g1,g2,g3⟩:=hE.func _ _ Rk;have YI:U9.body.isNone=false:=by cases hx:U9.body<;>simp_all
     have iT:aq (jk μ h.size ⟨wA.heap.size,0,0⟩) (first.toList++[.func (.yield h.size) #[] #[]]++captured.toList) args'.toList:=by
      have hle:μ.le (jk μ h.size ⟨wA.heap.size,0,0⟩):=fA H.fresh;have v1:=(aq.lz t1 t2).mono hle;have v3:=(aq.lz t3 t4).mono hle;have v2:=aq.cons (an.yield (bB μ h.size ⟨wA.heap.size,0,0⟩)) .nil;simpa[args']using(v1.append v2).append v3
     refine⟨wA.heap.size,[mk],wB,{target:=.fn (.func gid) gZ,args:=o6++ #[.func (.yield wA.heap.size) #[] #[]]},wB,gid,args',wB,?_,?_,fun _ _=>hF.fn _,?_,hF.ok n,?_⟩
     ·rw[CW];unfold Instr.enterLoop;simp only[Sem.run_bind,run_newObj,Result.andThen_ok,Sem.run_pure];rfl
     ·have YJ:∀v:Value,a.eval (.const v)=v:=fun _=>rfl;simp[resolve,hq,Deferred.ofValue,Sem.run_pure,YJ]
     ·simp only[invoke,callFunc,Sem.run_bind,run_program,Result.andThen_ok,g1,g3,YI,Bool.false_eq_true,if_false,Sem.run_pure];rfl
     ·refine(pX _ _ wB gid _ args' rv h2 hc iT sB.rel F (n - 1) hF).mono ?_;rintro e w3 ⟨v',tt,rfl,k1,s3⟩;have I9:tt h.size=some ⟨wA.heap.size,0,0⟩:=s3.le _ _ (bB _ _ _);split at hr
      ·rename_i st p f0 I4 tf ma hl;simp only[aj]at hr;obtain⟨bU,hr⟩:=hr;obtain⟨NF,d1,d2,d3,s4⟩:=kI s3.rel I9 bh hl .exhausted p;have Rl:Step E base B tt h2 w3 tt (h2.put h.size (.loop .exhausted p f0 I4 tf ma)) {w3 with heap:=w3.heap.setIfInBounds wA.heap.size (.loop {NF with state:=.exhausted})}:=by
        rw[←d3]at s4 ⊢;exact s4
       have lK:=((sA.trans sB).trans s3).trans Rl;have Rm:bE W0 tt {w3 with heap:=w3.heap.setIfInBounds wA.heap.size (.loop {NF with state:=.exhausted})} (mk::a.defers) (w.heap.size::rs):=((hmarks.step sB).step s3).step Rl;refine⟨p,{w3 with heap:=w3.heap.setIfInBounds wA.heap.size (.loop {NF with state:=.exhausted})},?_,?_⟩
       ·unfold Instr.endLoop;simp only[Sem.run_bind,run_getLoop (P:=P) d1,Result.andThen_ok];rw[if_neg (by rw[d2];intro hh;rw[bne_iff_ne]at bU;exact bU (eq_of_beq hh))];simp only[Sem.run_bind,bP (P:=P) d1 (fun _ _ _=>by simp),Result.andThen_ok,Sem.run_pure,d3]
       ·cases p with
        |none=>
         simp only[Option.some.injEq,Prod.mk.injEq]at hr;obtain⟨rfl,rfl,rfl⟩:=hr;exact hQ tt _ _ _ (hf.mono lK.le) Rm lK
        |some cj=>
         simp only at hr;exact hk cj f _ ex f' h' hr tt {a with defers:=mk::a.defers} _ W0 _ (hf.mono lK.le) Rl.rel Rm (Nat.le_trans hW lK.grow.size) F n Q hF (.inl CW) fun YK a5 w5 YL p1 p2 s5=>hQ YK a5 w5 YL p1 p2 (lK.trans s5)
      ·cases hr
   ·cases hr
  |scope b=>simp only[aS]at hr;cases hr
  |label l=>simp only[aS]at hr;cases hr
  |goto l=>simp only[aS]at hr;cases hr
  |refuse s=>simp only[aS]at hr;cases hr
end
def uy (base:Nat) (μ:ba) (h:ah) (w:World) (b:Nat) (m:MT):Prop:=∃o o',h.get b=some o∧w.heap[m.r]? =some o'∧gP μ h base b m o o'
theorem uy.read {base:Nat} {μ:ba} {h:ah} {w:World} {b:Nat} {m:MT} (H:uy base μ h w b m) {cs:List Value} (hr:h.rd b=some cs):
 ∃c e fr,w.heap[m.r]? =some (.cells c e fr)∧c.size=m.n∧m.s+cs.length≤m.n∧(base≤b→mL fr m.n)∧∀(i:Nat) v,cs[i]? =some v→∃v',c[m.s+i]? =some v'∧an μ v v':=by
 obtain⟨o,o',ho,GB,pK⟩:=H;obtain⟨r,h1,h2,h3⟩:=rd_some hr;obtain⟨f,cu,aF,hg⟩:=di h3;rw[hg]at ho;cases ho;cases pK with
 |cells hn hl hf hc=>exact⟨_,_,_,GB,hn,hl,hf,hc (by simp[hr])⟩
theorem uy.ai {base:Nat} {μ:ba} {h:ah} {w:World} {b o n:Nat} {m:MT} (H:uy base μ h w b m) {l:List Value} (hr:ai h b o n=some l):
 l.length=n∧∀(i:Nat) v,l[i]? =some v→∃v',w.cell? ⟨m.r,m.s+o+i,none⟩=some v'∧an μ v v':=by
 unfold M.ai at hr;simp only[Option.bind_eq_some_iff,aM]at hr;obtain⟨cs,h1,h2,rfl⟩:=hr;refine⟨by simp at h2 ⊢;omega,fun i v hv=>?_⟩;obtain⟨c,e,fr,hw,hn,hl,hf,hc⟩:=H.read h1;have hi:i<n:=by
  have:=(List.getElem?_eq_some_iff.1 hv).1;simp at this;omega
 rw[List.getElem?_take,if_pos hi,List.getElem?_drop]at hv;obtain⟨v',k1,k2⟩:=hc _ v hv;refine⟨v',?_,k2⟩;simp only[World.cell?,hw];simpa[Nat.add_assoc]using k1
section
variable {P:Program} {E:Env} {μ:ba} {f:AF} {a:Act} {base B:Nat} {h:ah} {w:World}
theorem uy.xg {b o n:Nat} {m:MT} (H:uy base μ h w b m) {l:List Value} (hr:M.ai h b o n=some l):
 ∃l',aq μ l l'∧∀(i:Nat) v,l'[i]? =some v→w.cell? ⟨m.r,m.s+o+i,none⟩=some v:=by
 obtain⟨h1,h2⟩:=H.ai hr;have key:∀(l:List Value) (k:Nat),(∀(i:Nat) v,l[i]? =some v→∃v',w.cell? ⟨m.r,m.s+o+k+i,none⟩=some v'∧an μ v v')→∃l',aq μ l l'∧∀(i:Nat) v,l'[i]? =some v→w.cell? ⟨m.r,m.s+o+k+i,none⟩=some v:=by
  intro l
  induction l with
  |nil=>intro k _;exact⟨[],.nil,fun i v h=>by simp at h⟩
  |cons v l ih=>
   intro k hl;obtain⟨v',q1,q2⟩:=hl 0 v rfl;obtain⟨l',r1,r2⟩:=ih (k+1) fun i u hu=>by
    obtain⟨u',k1,k2⟩:=hl (i+1) u (by simpa using hu);exact⟨u',by rw[←k1];congr 2;omega,k2⟩
   refine⟨v'::l',.cons q2 r1,fun i u hu=>?_⟩;cases i with
   |zero=>simp at hu;subst hu;simpa using q1
   |succ i=>
    simp at hu;rw[←r2 i u hu];congr 2;omega
 obtain⟨l',r1,r2⟩:=key l 0 (by simpa using h2);exact⟨l',r1,by simpa using r2⟩
theorem GI (hE:bl P E) (hf:cB μ f a.tmps) (hg:fB E μ) {o:Oper} {q:RQ} {v:Value} (hq:bt E f o=some q) (Hq:∀m,μ q.cX=some m→∃h,q.run h=some v∧uy base μ h w q.cX m):
 ∃v',an μ v v'∧(execOp a.eval o).run P w= .ok (.value v') w:=by
 obtain⟨dst,op,type,pos,after,guard⟩:=o;cases op
 case load t x=>
  simp only[bt,Option.bind_eq_some_iff,Option.some.injEq]at hq;obtain⟨u,h1,p,h2,⟨agg,n⟩,h3,rfl⟩:=hq;have e:=jq h2;subst e;obtain⟨m,hb,ex⟩:=(aT hg hf h1).iX;obtain⟨h,hv,H⟩:=Hq m hb;simp only[RQ.run,Option.bind_eq_some_iff]at hv;obtain⟨l,h4,h5⟩:=hv;obtain⟨l',r1,r2⟩:=H.xg h4;obtain⟨v',q1,q2⟩:=ia h5 r1;refine⟨v',q2,?_⟩;have hl:l'.length=n:=by rw[←r1.length];exact(H.ai h4).1
  simp only[execOp,Instr.loadAt,Sem.run_bind,ex,Instr.sureAddr,Sem.run_pure,Result.andThen_ok];rw[mQ hE h3 hl r2 q1];rfl
 case lookup t x ix ok=>
  simp only[bt,Option.bind_eq_some_iff]at hq;obtain⟨d,hd,mv,h1,k,h2,h3⟩:=hq;split at h3
  ·rename_i kt elem r;simp only[Option.bind_eq_some_iff,aj,Bool.and_eq_true,Option.some.injEq]at h3;obtain⟨kd,gB,z,hz,⟨⟨s1,s2⟩,s3⟩,rfl⟩:=h3;obtain⟨m,hb,ex⟩:=(aT hg hf h1).jU;have ek:=(aT hg hf h2).ao s2;obtain⟨h,hv,H⟩:=Hq m hb;simp only[RQ.run,Option.bind_eq_some_iff]at hv;obtain⟨⟨es,clock⟩,h4,h5⟩:=hv;obtain⟨o1,o2,k1,k2,k3⟩:=H;have hm:h.get r=some (.map es clock):=by
    unfold dV at h4;split at h4<;>simp at h4;obtain⟨rfl,rfl⟩:=h4;assumption
   simp only[RQ.cX]at k1 k3;rw[hm]at k1;cases k1;cases k3 with
   |map hs=>
    rename_i bD;have nM:=run_getObj_map (P:=P) k2 (fun _ _ _=>by simp);simp only[iL,Option.bind_eq_some_iff,Option.some.injEq]at h5;obtain⟨fr,h6,h7⟩:=h5;obtain⟨I8,q1,q2,q3⟩:=iw hs h6;have o4:=an.bM μ s3;have AV:(Instr.findKey kt k bD.toList).run P w= .ok I8 w:=by
     simp only[Instr.findKey,Sem.run_bind,ay hE gB w,Result.andThen_ok,q1,Sem.run_pure]
    have uk:=jr (P:=P) hE gB s1 bD.isEmpty 9999 k w;have fin:∀(u u':Value) (b:Bool),an μ u u'→an μ (bif ok then .tuple #[u,.bool b]else u) (if ok=true then .tuple #[u',.bool b]else u'):=by
     intro u u' b hu;cases ok with
     |true=>simp only[cond_true,if_true];exact .da (by simpa using aq.cons hu (.cons (.bool μ b) .nil))
     |false=>simpa using hu
    cases fr with
    |none=>
     have e:=q2 rfl;subst e;simp only at h7;subst h7;refine⟨_,fin z z false o4,?_⟩;simp only[execOp,Instr.lookup,Sem.run_bind,ay hE hd w,Result.andThen_ok,ex,ek,nM,Sem.run_pure,uk,AV,jo hE hz w]
    |some jv=>
     obtain⟨v',e,hr⟩:=q3 jv.1 jv.2 rfl;subst e;simp only at h7;subst h7;refine⟨_,fin jv.2 v' true hr,?_⟩;simp only[execOp,Instr.lookup,Sem.run_bind,ay hE hd w,Result.andThen_ok,ex,ek,nM,Sem.run_pure,uk,AV]
  ·cases h3
 case call c=>
  simp only[bt]at hq;split at hq
  ·rename_i t ts zb Rd;simp only[Option.bind_eq_some_iff]at hq;obtain⟨d,hd,args,h1,h2⟩:=hq;split at h2
   ·rename_i kt et r rest;simp only[Option.some.injEq]at h2;subst h2;have hr:=iZ hg hf h1;cases jM:c.args.toList.map a.eval with
    |nil=>rw[jM]at hr;cases hr
    |cons u us=>
     rw[jM]at hr;cases hr with
     |cons hx _=>
      obtain⟨m,hb,rfl⟩:=hx.jU;obtain⟨h,hv,H⟩:=Hq m hb;simp only[RQ.run,Option.bind_eq_some_iff,Option.some.injEq]at hv;obtain⟨⟨es,clock⟩,h4,rfl⟩:=hv;obtain⟨o1,o2,k1,k2,k3⟩:=H;have hm:h.get r=some (.map es clock):=by
       unfold dV at h4;split at h4<;>simp at h4;obtain⟨rfl,rfl⟩:=h4;assumption
      simp only[RQ.cX]at k1 k3;rw[hm]at k1;cases k1;cases k3 with
      |map hs=>
       rename_i bD;have nM:=run_getObj_map (P:=P) k2 (fun _ _ _=>by simp);have e0:(c.args.map a.eval)[0]? =some (.map (some m.r)):=by
        have:(c.args.map a.eval).toList= .map (some m.r)::us:=by simpa using jM
        rw[←Array.getElem?_toList,this];rfl
       have e1:c.argTypes[0]? =some t:=by rw[←Array.getElem?_toList,Rd];rfl
       refine⟨goInt bD.size,?_,?_⟩
       ·have:=hs.length;simp only[Array.length_toList]at this;rw[this];exact .int μ _ _
       ·simp only[execOp,resolve,zb,Sem.run_bind,Sem.run_pure,Result.andThen_ok,invoke,builtin,Builtin.len_,e0,e1,ay hE hd w,nM]
   ·cases h2
  ·cases hq
 all_goals(simp only[bt]at hq;cases hq)
def wL (o:Oper) (f f':AF):Prop:=∀t,Operand.tmp t∈o.op.operands→f.get t=f'.get t
theorem bx {f f':AF} {x:Operand} (h:∀t,x= .tmp t→f.get t=f'.get t):ev E f x=ev E f' x:=by
 cases x<;>simp only[ev];rw[h _ rfl]
theorem kJ {f f':AF}:∀{xs:List Operand},(∀t,Operand.tmp t∈xs→f.get t=f'.get t)→C2 E f xs=C2 E f' xs
 |[],_=>rfl
 |x::l,h=>by
  simp only[C2];rw[bx (fun t e=>h t (by rw[e];exact List.mem_cons_self)),kJ fun t ht=>h t (List.mem_cons_of_mem _ ht)]
theorem lL {f f':AF}:∀{xs:List (Nat×Operand)},(∀t,Operand.tmp t∈xs.map (·.2)→f.get t=f'.get t)→gq E f xs=gq E f' xs
 |[],_=>rfl
 |(i,x)::l,h=>by
  simp only[gq];rw[bx (fun t e=>h t (by rw[e];exact List.mem_cons_self)),lL fun t ht=>h t (List.mem_cons_of_mem _ ht)]
theorem o9 {f f':AF} {x:Option Operand} (h:∀t,x=some (.tmp t)→f.get t=f'.get t):mG E f x=mG E f' x:=by
 cases x<;>simp only[mG];rw[bx fun t e=>h t (by rw[e])]
theorem Dg {f f':AF} {o:Oper} (h:wL o f f'):aB E f o=aB E f' o:=by
 obtain⟨dst,op,type,pos,after,guard⟩:=o;unfold wL at h;cases op<;>simp only[Op.operands]at h<;>simp only[aB]
 case call c=>
  have h2:∀t,Operand.tmp t∈c.args.toList→f.get t=f'.get t:=fun t ht=>h t (by simp[Call.operands]at ht ⊢;exact .inr ht);rw[kJ h2]
 case makeFunc fn first captured=>
  rw[kJ (xs:=first.toList) fun t ht=>h t (by simp at ht ⊢;exact .inl ht),kJ (xs:=captured.toList) fun t ht=>h t (by simp at ht ⊢;exact .inr ht)]
 case build t ps=>rw[lL fun t ht=>h t (by simpa using ht)]
 case slice t x lo hi mx=>
  rw[bx fun t e=>h t (by simp[e]),o9 (x:=lo) fun t e=>h t (by simp[e]),o9 (x:=hi) fun t e=>h t (by simp[e]),o9 (x:=mx) fun t e=>h t (by simp[e])]
 case pick c x y=>rw[bx (x:=c) fun t e=>h t (by simp[e]),bx (x:=x) fun t e=>h t (by simp[e]),bx (x:=y) fun t e=>h t (by simp[e])]
 case binOp op t x y z=>rw[bx (x:=x) fun t e=>h t (by simp[e]),bx (x:=y) fun t e=>h t (by simp[e])]
 case indexAddr t x y=>rw[bx (x:=x) fun t e=>h t (by simp[e]),bx (x:=y) fun t e=>h t (by simp[e])]
 case index t x y=>rw[bx (x:=x) fun t e=>h t (by simp[e]),bx (x:=y) fun t e=>h t (by simp[e])]
 case lookup t x y k=>rw[bx (x:=x) fun t e=>h t (by simp[e]),bx (x:=y) fun t e=>h t (by simp[e])]
 all_goals first|rfl |(rw[bx fun t e=>h t (by simp[e])])
theorem Dh {f f':AF} {o:Oper} (h:wL o f f'):bt E f o=bt E f' o:=by
 obtain⟨dst,op,type,pos,after,guard⟩:=o;unfold wL at h;cases op<;>simp only[Op.operands]at h<;>simp only[bt]
 case call c=>
  have h2:∀t,Operand.tmp t∈c.args.toList→f.get t=f'.get t:=fun t ht=>h t (by simp[Call.operands]at ht ⊢;exact .inr ht);rw[kJ h2]
 case lookup t x y k=>rw[bx (x:=x) fun t e=>h t (by simp[e]),bx (x:=y) fun t e=>h t (by simp[e])]
 all_goals first|rfl |(rw[bx fun t e=>h t (by simp[e])])
theorem A7 {f f':AF} {o:Oper} (h:wL o f f'):aV E f o=aV E f' o:=by
 obtain⟨dst,op,type,pos,after,guard⟩:=o;unfold wL at h;cases op<;>simp only[Op.operands]at h<;>simp only[aV]
 case buildSlice t n ps=>rw[lL fun t ht=>h t (by simpa using ht)]
 case makeMap t r=>cases r<;>rfl
 case makeSlice t x y=>rw[bx (x:=x) fun t e=>h t (by simp[e]),bx (x:=y) fun t e=>h t (by simp[e])]
 all_goals first|rfl |(rw[bx fun t e=>h t (by simp[e])])
theorem GJ {f f':AF} {o:Oper} (h:wL o f f') (k:ah):cH E base f o k=cH E base f' o k:=by
 obtain⟨dst,op,type,pos,after,guard⟩:=o;unfold wL at h;cases op<;>simp only[Op.operands]at h<;>simp only[cH]
 case call c=>
  have h2:∀t,Operand.tmp t∈c.args.toList→f.get t=f'.get t:=fun t ht=>h t (by simp[Call.operands]at ht ⊢;exact .inr ht);rw[kJ h2];cases hc:c.callee with
  |value g=>
   have h3:∀t,g= .tmp t→f.get t=f'.get t:=fun t ht=>h t (by simp[Call.operands,hc,ht]);simp only
   rw[bx h3]
  |builtin b=>rfl
  |invoke r m=>rfl
 case store t x y=>rw[bx (x:=x) fun t e=>h t (by simp[e]),bx (x:=y) fun t e=>h t (by simp[e])]
 case mapUpdate t x y z|insert t x y z=>rw[bx (x:=x) fun t e=>h t (by simp[e]),bx (x:=y) fun t e=>h t (by simp[e]),bx (x:=z) fun t e=>h t (by simp[e])]
 all_goals first|rfl |(rw[bx fun t e=>h t (by simp[e])])
theorem Di {f f':AF} {o:Oper} (h:wL o f f') (k:ah) (cf:eT) (rf:dW):dR E base cf rf o f k=dR E base cf rf o f' k:=by
 unfold dR;rw[Dg h,Dh h,A7 h,GJ h]
def AF.only (f:AF) (l:List Nat):AF:=⟨l.foldl (fun tr t=>tr.set t (f.get t)) .nil,f.n⟩
theorem AF.uz (f:AF) (l:List Nat) (t:Nat):(f.only l).get t=if t∈l then f.get t else undef:=by
 have key:∀(l:List Nat) (tr:Tr Value),(∀t,tr.get t=none∨tr.get t=some (f.get t))→∀t,(l.foldl (fun tr t=>tr.set t (f.get t)) tr).get t=if t∈l then some (f.get t)else tr.get t:=by
  intro l
  induction l with
  |nil=>intro tr _ t;simp
  |cons x l ih=>
   intro tr Rn t;simp only[List.foldl_cons];have h0:∀t,(tr.set x (f.get x)).get t=none∨(tr.set x (f.get x)).get t=some (f.get t):=fun t=>by
    rw[Tr.fO];by_cases e:t=x
    ·subst e;rw[if_pos rfl];exact .inr rfl
    ·rw[if_neg e];exact Rn t
   rw[ih _ h0 t,Tr.fO];by_cases h1:t∈l
   ·simp[h1]
   ·by_cases h2:t=x
    ·subst h2;simp
    ·simp[h1,h2]
 have e:(f.only l).get t=(match(l.foldl (fun(tr:Tr Value) t=>tr.set t (f.get t)) Tr.nil).get t with|some v=>v|none=>undef):=rfl;rw[e,key l .nil (fun _=>.inl rfl) t,Tr.get_nil];by_cases ht:t∈l
 ·rw[if_pos ht,if_pos ht]
 ·rw[if_neg ht,if_neg ht]
def kK (tmps:Array Value) (l:List Nat):Array Value:=(Array.range tmps.size).map fun t=>if t∈l then tmps.getD t undef else undef
theorem uA (tmps:Array Value) (l:List Nat):(kK tmps l).size=tmps.size:=by simp[kK]
theorem xl (tmps:Array Value) (l:List Nat) (t:Nat):(kK tmps l).getD t undef=if t∈l then tmps.getD t undef else undef:=by
 by_cases ht:t<tmps.size
 ·simp[kK,ht]
 ·simp[kK,ht]
def xm (a:Act) (l:List Nat):Act:={a with tmps:=kK a.tmps l}
theorem JI {f:AF} {a:Act} {l:List Nat} (hn:a.tmps.size=f.n) (h:∀t∈l,an μ (f.get t) (a.tmps.getD t undef)):cB μ (f.only l) (xm a l).tmps:=by
 refine⟨?_,fun t=>?_⟩
 ·show f.n=(kK a.tmps l).size;rw[uA];exact hn.symm
 ·show an μ _ ((kK a.tmps l).getD t undef);rw[AF.uz,xl];split
  ·exact h t ‹_›
  ·exact .undef μ
theorem oC {ops:List Oper} {o:Oper} {t:Nat} (h:Operand.tmp t∈o.op.operands):t∈looks ops o:=by
 unfold looks;exact List.mem_append_left _ (List.mem_filterMap.2 ⟨.tmp t,by simpa using h,rfl⟩)
theorem mg {ops:List Oper} {o:Oper} {g:Nat} {want:Bool} {t:Nat} (h:o.guard=some (g,want)) (h2:(ops[g]?).bind (·.dst)=some t):t∈looks ops o:=by
 unfold looks;rw[h];simp[h2]
theorem GK (ops:List Oper) (o:Oper) (f:AF):wL o (f.only (looks ops o)) f:=fun t ht=>by
 rw[AF.uz,if_pos (oC ht)]
theorem A8 (ops:List Oper) (o:Oper) (f:AF):wanted ops o (f.only (looks ops o))=wanted ops o f:=by
 unfold wanted;cases hg:o.guard with
 |none=>rfl
 |some gw=>
  obtain⟨g,want⟩:=gw;simp only
  cases hd:(ops[g]?).bind (·.dst)with
  |none=>rfl
  |some t=>
   simp only
   rw[AF.uz,if_pos (mg hg hd)]
theorem GL {ops:List Oper} {o:Oper} {a:Act} {x:Operand} (h:x∈o.op.operands):a.eval x=(xm a (looks ops o)).eval x:=by
 cases x with
 |tmp t=>
  have:=xl a.tmps (looks ops o) t;rw[if_pos (oC h)]at this;show a.tmps.getD t undef=(kK a.tmps (looks ops o)).getD t undef;exact this.symm
 |_=>rfl
theorem GM {ops:List Oper} {o:Oper} {a:Act} (hs:∀cs b,o.op≠ .select cs b):execOp a.eval o=execOp (xm a (looks ops o)).eval o:=
 execOp_congr o hs fun _ hx=>GL hx
theorem zp {ops:Array Oper} {o:Oper} {a:Act}:Region.wanted o (yielded ops (xm a (looks ops.toList o)).tmps)=Region.wanted o (yielded ops a.tmps):=by
 unfold Region.wanted;cases hg:o.guard with
 |none=>rfl
 |some gw=>
  obtain⟨g,want⟩:=gw;simp only
  congr 1
  unfold yielded;cases hd:(ops[g]?).bind (·.dst)with
  |none=>simp
  |some t=>
   simp only[Option.bind_some];have hm:t∈looks ops.toList o:=mg hg (by simpa using hd);show(match(kK a.tmps (looks ops.toList o))[t]? with|some (.bool b)=>some b|_=>none)=_;by_cases ht:t<a.tmps.size
   ·have h1:(kK a.tmps (looks ops.toList o))[t]? =a.tmps[t]? :=by
     simp[kK,ht,hm]
    rw[h1];rfl
   ·have e1:a.tmps[t]? =none:=Array.getElem?_eq_none (Nat.le_of_not_lt ht);have e2:(kK a.tmps (looks ops.toList o))[t]? =none:=Array.getElem?_eq_none (by rw[uA];exact Nat.le_of_not_lt ht);rw[e1,e2]
theorem noSelect {cf:eT} {rf:dW} {o:Oper} {r:QY} {k:ah} (h:dR E base cf rf o f k=some r):∀cs b,o.op≠ .select cs b:=by
 intro cs b hc;unfold dR at h;simp only[aB,bt,aV,cH,hc]at h;cases h
end
section
variable {E:Env} {base:Nat} {cf:eT} {rf:dW}
theorem sE {o:Oper} {f:AF} {h:ah} {r:QY} (hr:dR E base cf rf o f h=some r):
 (aB E f o=some r.v∧r.h=h∧r.log= .pure)∨
 (∃q,bt E f o=some q∧q.run h=some r.v∧r.h=h∧r.log= .rd q h)∨
 (∃md hd,aV E f o=some (md,hd)∧r.v=hd.val h.size∧r.h=h.push (md.obj h.size)∧r.log= .alloc h r.h)∨
 r.log= .cU h r.h:=by
 unfold dR at hr;split at hr
 ·simp only[Option.some.injEq]at hr;subst hr;exact .inl ⟨by assumption,rfl,rfl⟩
 ·split at hr
  ·simp only[Option.bind_eq_some_iff,Option.some.injEq]at hr;obtain⟨v,hv,rfl⟩:=hr;exact .inr (.inl ⟨_,by assumption,hv,rfl,rfl⟩)
  ·split at hr
   ·simp only[Option.some.injEq]at hr;subst hr;exact .inr (.inr (.inl ⟨_,_,by assumption,rfl,rfl,rfl⟩))
   ·split at hr
    ·simp only[Option.some.injEq]at hr;subst hr;rename_i he;refine .inr (.inr (.inr rfl))
    ·simp only[Option.bind_eq_some_iff,Option.some.injEq]at hr;obtain⟨x,_,rfl⟩:=hr;exact .inr (.inr (.inr rfl))
    ·simp only[Option.bind_eq_some_iff,Option.some.injEq]at hr;obtain⟨x,_,rfl⟩:=hr;exact .inr (.inr (.inr rfl))
    ·cases hr
structure Trace (E:Env) (base:Nat) (cf:eT) (rf:dW) (all ops:List Oper) (fs:Nat→AF) (hs:Nat→ah) (vs:Nat→Value) (lg:Nat→dD):Prop where
 put:∀j o,ops[j]? =some o→fs (j+1)=(fs j).put o.dst (vs j)
 run:∀j o,ops[j]? =some o→(wanted all o (fs j)=true∧dR E base cf rf o (fs j) (hs j)=some ⟨vs j,hs (j+1),lg j⟩)∨(wanted all o (fs j)=false∧vs j=undef∧hs (j+1)=hs j∧lg j= .pure)
theorem A9 {all:List Oper}:∀{ops:List Oper} {f:AF} {h:ah} {f':AF} {h':ah} {ru:List dD},jP E base cf rf all ops f h=some (f',h',ru)→
 ∃fs hs vs lg,Trace E base cf rf all ops fs hs vs lg∧fs 0=f∧hs 0=h∧fs ops.length=f'∧hs ops.length=h'∧∀j,j<ops.length→ru[j]? =some (lg j)
 |[],f,h,f',h',ru,hr=>by
  simp only[jP,Option.some.injEq,Prod.mk.injEq]at hr;obtain⟨rfl,rfl,rfl⟩:=hr;exact⟨fun _=>f,fun _=>h,fun _=>undef,fun _=>.pure,⟨fun j o ho=>by simp at ho,fun j o ho=>by simp at ho⟩,rfl,rfl,rfl,rfl,fun j hj=>by simp at hj⟩
 |o::ops,f,h,f',h',ru,hr=>by
  simp only[jP]at hr
  have fin:∀(v:Value) (h1:ah) (l1:dD) (f1:AF) (h2:ah) (l2:List dD),jP E base cf rf all ops (f.put o.dst v) h1=some (f1,h2,l2)→
   ((wanted all o f=true∧dR E base cf rf o f h=some ⟨v,h1,l1⟩)∨(wanted all o f=false∧v=undef∧h1=h∧l1= .pure))→
   ∃fs hs vs lg,Trace E base cf rf all (o::ops) fs hs vs lg∧fs 0=f∧hs 0=h∧fs (o::ops).length=f1∧hs (o::ops).length=h2∧∀j,j<(o::ops).length→(l1::l2)[j]? =some (lg j):=by
   intro v h1 l1 f1 h2 l2 fC hk;obtain⟨fs,hs,vs,lg,T,e1,e2,e3,e4,e5⟩:=A9 fC;refine⟨fun |0=>f|j+1=>fs j,fun |0=>h|j+1=>hs j,fun |0=>v|j+1=>vs j,fun |0=>l1|j+1=>lg j,⟨?_,?_⟩,rfl,rfl,e3,e4,?_⟩
   ·intro j p hp;cases j with
    |zero=>simp at hp;subst hp;exact e1
    |succ j=>exact T.put j p (by simpa using hp)
   ·intro j p hp;cases j with
    |zero=>simp at hp;subst hp;simpa[e2]using hk
    |succ j=>exact T.run j p (by simpa using hp)
   ·intro j hj;cases j with
    |zero=>rfl
    |succ j=>simpa using e5 j (by simpa using hj)
  split at hr
  ·rename_i hw;simp only[Option.bind_eq_some_iff,Option.some.injEq,Prod.mk.injEq]at hr;obtain⟨r,mC,⟨f1,h2,l2⟩,Ay,rfl,rfl,rfl⟩:=hr;exact fin _ _ _ _ _ _ Ay (.inl ⟨hw,by rw[mC]⟩)
  ·rename_i hw;simp only[Option.bind_eq_some_iff,Option.some.injEq,Prod.mk.injEq]at hr;obtain⟨⟨f1,h2,l2⟩,Ay,rfl,rfl,rfl⟩:=hr;exact fin _ _ _ _ _ _ Ay (.inr ⟨hw,rfl,rfl,rfl⟩)
def Dj (acc:List Nat) (s:Nat) (e:Edge):Nat:=match Region.binds .any e with|true=>s|||2 ^ e.on|||acc.getD e.on 0|false=>s
theorem zq (p:Oper) (l:List Oper) (acc:List Nat):cI (p::l) acc=cI l (acc++[p.after.toList.foldl (Dj acc) 0]):=rfl
theorem uB (acc:List Nat) (b:Nat):∀(es:List Edge) (s:Nat),(es.foldl (Dj acc) s).testBit b=true→
 s.testBit b=true∨∃e∈es,Region.binds .any e=true∧(b=e.on∨(acc.getD e.on 0).testBit b=true)
 |[],s,h=>.inl h
 |e::es,s,h=>by
  simp only[List.foldl_cons]at h;rcases uB acc b es _ h with h1|⟨e',h1,h2⟩
  ·unfold Dj at h1;cases hb:Region.binds .any e with
   |false=>rw[hb]at h1;exact .inl h1
   |true=>
    rw[hb]at h1;simp only[Nat.testBit_or,Bool.or_eq_true,Nat.testBit_two_pow,decide_eq_true_eq]at h1;rcases h1 with (h1|h1)|h1
    ·exact .inl h1
    ·exact .inr ⟨e,List.mem_cons_self,hb,.inl h1.symm⟩
    ·exact .inr ⟨e,List.mem_cons_self,hb,.inr h1⟩
  ·exact .inr ⟨e',List.mem_cons_of_mem _ h1,h2⟩
theorem pY:∀(l:List Oper) (acc:List Nat),∃ys,cI l acc=acc++ys∧∀i o,l[i]? =some o→∀b,((acc++ys).getD (acc.length+i) 0).testBit b=true→
 ∃e∈o.after.toList,Region.binds .any e=true∧(b=e.on∨(e.on<acc.length+i∧((acc++ys).getD e.on 0).testBit b=true))
 |[],acc=>⟨[],by simp[cI],fun i o h=>by simp at h⟩
 |p::l,acc=>by
  obtain⟨ys,h1,h2⟩:=pY l (acc++[p.after.toList.foldl (Dj acc) 0]);refine⟨(p.after.toList.foldl (Dj acc) 0)::ys,by rw[zq,h1];simp,fun i o ho b hb=>?_⟩;cases i with
  |zero=>
   simp at ho;subst ho;have e0:(acc++(p.after.toList.foldl (Dj acc) 0)::ys).getD (acc.length+0) 0=(p.after.toList.foldl (Dj acc) 0):=by
    simp[List.getD]
   rw[e0]at hb;rcases uB _ _ _ _ hb with hz|⟨e,k1,k2,k3⟩
   ·simp at hz
   ·refine⟨e,k1,k2,?_⟩;rcases k3 with k3|k3
    ·exact .inl k3
    ·by_cases bj:e.on<acc.length
     ·refine .inr ⟨om,?_⟩;rw[←k3];simp[List.getD,List.getElem?_append_left bj]
     ·simp[List.getD,List.getElem?_eq_none (Nat.le_of_not_lt bj)]at k3
  |succ i=>
   have:=h2 i o (by simpa using ho) b (by simpa[Nat.add_assoc,Nat.add_comm 1 i]using hb);simpa[Nat.add_assoc,Nat.add_comm 1 i]using this
theorem sF {ops:List Oper} {i:Nat} {o:Oper} (ho:ops[i]? =some o) {b:Nat} (hb:((cI ops []).getD i 0).testBit b=true):
 ∃e∈o.after.toList,Region.binds .any e=true∧(b=e.on∨(e.on<i∧((cI ops []).getD e.on 0).testBit b=true)):=by
 obtain⟨ys,h1,h2⟩:=pY ops [];simp only[List.nil_append,List.length_nil,Nat.zero_add]at h1 h2;rw[h1]at hb ⊢;exact h2 i o ho b hb
theorem pZ {ops:List Oper} {bs:List Nat} {i:Nat} {o:Oper}:∀{l:List Oper} {j0:Nat},mK ops bs i o j0 l=true→∀k p,l[k]? =some p→i≠j0+k→∀d,p.dst=some d→o.dst≠some d∧(d∈looks ops o→ordered bs i (j0+k)=true)
 |[],j0,_,k,p,hp,_,d,_=>by simp at hp
 |q::l,j0,h,k,p,hp,bc,d,hd=>by
  simp only[mK,Bool.and_eq_true,Bool.or_eq_true,beq_iff]at h;obtain⟨h1,h2⟩:=h;cases k with
  |zero=>
   simp at hp;subst hp;rcases h1 with h1|h1
   ·exact absurd h1 bc
   ·rw[hd]at h1;simp only[Bool.and_eq_true,bne_iff_ne,Bool.or_eq_true,Bool.not_eq_true']at h1;refine⟨h1.1,fun hm=>?_⟩;rcases h1.2 with h3|h3
    ·have:(looks ops o).contains d=true:=by simpa using hm
     rw[this]at h3;cases h3
    ·exact h3
  |succ k=>
   have:=pZ h2 k p (by simpa using hp) om d hd;rw[show j0+(k+1)=j0+1+k by omega];exact this
theorem sG {ops:List Oper} {bs:List Nat}:∀{l:List Oper} {i0:Nat},tH ops bs i0 l=true→∀k o,l[k]? =some o→mK ops bs (i0+k) o 0 ops=true∧∀e∈o.after.toList,Region.binds .any e=true→e.on<i0+k
 |[],i0,_,k,o,ho=>by simp at ho
 |q::l,i0,h,k,o,ho=>by
  simp only[tH,Bool.and_eq_true,List.all_eq_true,Bool.or_eq_true,Bool.not_eq_true',aI]at h;obtain⟨⟨h1,h2⟩,h3⟩:=h;cases k with
  |zero=>
   simp at ho;subst ho;refine⟨h1,fun e he hb=>?_⟩;rcases h2 e he with h4|h4
   ·rw[hb]at h4;cases h4
   ·exact h4
  |succ k=>
   have:=sG h3 k o (by simpa using ho);rw[show i0+(k+1)=i0+1+k by omega];exact this
structure lM (ops:List Oper):Prop where
 Va:∀(i:Nat) (o:Oper),ops[i]? =some o→∀e∈o.after.toList,Region.binds .any e=true→e.on<i
 one:∀(i j:Nat) (o p:Oper) (d:Tmp),ops[i]? =some o→ops[j]? =some p→i≠j→p.dst=some d→o.dst≠some d
 look:∀(i j:Nat) (o p:Oper) (d:Tmp),ops[i]? =some o→ops[j]? =some p→i≠j→p.dst=some d→d∈looks ops o→ordered (cI ops []) i j=true
theorem Ro {ops:List Oper} (h:kE ops=true):lM ops:=by
 have key:=fun i o ho=>sG (l:=ops) (i0:=0) h i o ho;simp only[Nat.zero_add]at key;have k2:=fun i o ho j p (hp:ops[j]? =some p)=>pZ (l:=ops) (j0:=0) (key i o ho).1 j p hp;simp only[Nat.zero_add]at k2;exact⟨fun i o ho=>(key i o ho).2,fun i j o p d ho hp bc hd=>(k2 i o ho j p hp bc d hd).1,fun i j o p d ho hp bc hd hm=>(k2 i o ho j p hp bc d hd).2 hm⟩
theorem JJ {ops:List Oper} (T:lM ops):∀(j:Nat) (o:Oper),ops[j]? =some o→∀b,((cI ops []).getD j 0).testBit b=true→b<j:=by
 intro j
 induction j using Nat.strongRecOn with
 |ind j ih=>
  intro o ho b hb;obtain⟨e,h1,h2,h3⟩:=sF ho hb;have bj:=T.Va j o ho e h1 h2;rcases h3 with rfl |⟨h3,h4⟩
  ·exact bj
  ·have hlen:j<ops.length:=(List.getElem?_eq_some_iff.1 ho).1;have:=ih e.on h3 _ (List.getElem?_eq_getElem om) b h4;omega
def uC (_:List Oper) (L:Nat→Bool) (o:Oper):Prop:=∀e∈o.after.toList,Region.binds .any e=true→L e.on=true
def pa (ops:List Oper) (L:Nat→Bool):Prop:=∀j o,ops[j]? =some o→L j=true→uC ops L o
theorem Dk {ops:List Oper} {L:Nat→Bool} (C:pa ops L):∀(j:Nat) (o:Oper),ops[j]? =some o→uC ops L o→∀b,((cI ops []).getD j 0).testBit b=true→L b=true:=by
 intro j
 induction j using Nat.strongRecOn with
 |ind j ih=>
  intro o ho hr b hb;obtain⟨e,h1,h2,h3⟩:=sF ho hb;have hl:=hr e h1 h2;rcases h3 with rfl |⟨h3,h4⟩
  ·exact hl
  ·have hlen:j<ops.length:=(List.getElem?_eq_some_iff.1 ho).1;have h5:=List.getElem?_eq_getElem (l:=ops) (i:=e.on) om;exact ih e.on h3 _ h5 (C _ _ h5 hl) b h4
theorem fi {ops:List Oper} (T:lM ops) {L:Nat→Bool} (C:pa ops L) {i j:Nat} (NG:i<j) {o:Oper} (ho:ops[j]? =some o) (hr:uC ops L o) (h:ordered (cI ops []) i j=true∨ordered (cI ops []) j i=true):L i=true:=by
 have hlen:j<ops.length:=(List.getElem?_eq_some_iff.1 ho).1;have h5:=List.getElem?_eq_getElem (l:=ops) (i:=i) om;have:((cI ops []).getD j 0).testBit i=true:=by
  unfold ordered at h;simp only[Bool.or_eq_true]at h;rcases h with (h|h)|(h|h)
  ·exact h
  ·have:=JJ T i _ h5 j h;omega
  ·have:=JJ T i _ h5 j h;omega
  ·exact h
 exact Dk C j o ho hr i this
theorem p4 {bs:List Nat} {i:Nat} {x:dD}:∀{l:List dD} {j0:Nat},bO bs i x j0 l=true→∀k y,l[k]? =some y→aN bs i x (j0+k) y=true
 |[],_,_,k,y,h=>by simp at h
 |z::l,j0,h,k,y,hy=>by
  simp only[bO,Bool.and_eq_true]at h;cases k with
  |zero=>simp at hy;subst hy;exact h.1
  |succ k=>
   have:=p4 h.2 k y (by simpa using hy);rw[show j0+(k+1)=j0+1+k by omega];exact this
theorem sH {bs:List Nat}:∀{l:List dD} {i0:Nat},jR bs i0 l=true→(∀(i:Nat) (x:dD),l[i]? =some x→kc x=true)∧∀(i j:Nat) (x y:dD),i<j→l[i]? =some x→l[j]? =some y→aN bs (i0+i) x (i0+j) y=true
 |[],_,_=>⟨fun i x h=>by simp at h,fun i j x y _ h=>by simp at h⟩
 |z::l,i0,h=>by
  simp only[jR,Bool.and_eq_true]at h;obtain⟨⟨h1,h2⟩,h3⟩:=h;obtain⟨k1,k2⟩:=sH h3;refine⟨fun i x hx=>?_,fun i j x y NG hx hy=>?_⟩
  ·cases i with
   |zero=>simp at hx;subst hx;exact h1
   |succ i=>exact k1 i x (by simpa using hx)
  ·cases j with
   |zero=>omega
   |succ j=>
    cases i with
    |zero=>
     simp at hx;subst hx;have:=p4 h2 j y (by simpa using hy);rw[show i0+(j+1)=i0+1+j by omega];exact this
    |succ i=>
     have:=k2 i j x y om (by simpa using hx) (by simpa using hy);rw[show i0+(i+1)=i0+1+i by omega,show i0+(j+1)=i0+1+j by omega];exact this
variable {all ops:List Oper} {fs:Nat→AF} {hs:Nat→ah} {vs:Nat→Value} {lg:Nat→dD}
theorem Trace.Rp (T:Trace E base cf rf all ops fs hs vs lg):∀k,k≤ops.length→(fs k).n=(fs 0).n:=by
 intro k
 induction k with
 |zero=>intro _;rfl
 |succ k ih=>
  intro hk;rw[T.put k _ (List.getElem?_eq_getElem om),AF.PZ,ih om]
theorem AF.br (f:AF) (d:Option Tmp) (v:Value) (t:Nat):(f.put d v).get t=if d=some t∧t<f.n then v else f.get t:=by
 cases d with
 |none=>simp[AF.put]
 |some d=>
  simp only[AF.put,AF.fO,Option.some.injEq];by_cases e:t=d
  ·subst e;simp
  ·have:d≠t:=fun h=>e h.symm;simp[e,this]
theorem Trace.JK (T:Trace E base cf rf all ops fs hs vs lg) (t:Nat):∀k,k≤ops.length→(∀j o,j<k→ops[j]? =some o→o.dst≠some t)→(fs k).get t=(fs 0).get t:=by
 intro k
 induction k with
 |zero=>intro _ _;rfl
 |succ k ih=>
  intro hk Az;rw[T.put k _ (List.getElem?_eq_getElem om),AF.br,if_neg (fun h=>Az k _ om (List.getElem?_eq_getElem om) h.1),ih om fun j o hj ho=>Az j o om ho]
theorem Trace.JL (T:Trace E base cf rf all ops fs hs vs lg) (X:lM ops) {t:Nat} (ht:t<(fs 0).n) {j:Nat} {o:Oper} (ho:ops[j]? =some o) (hd:o.dst=some t):∀k,k≤ops.length→j<k→(fs k).get t=vs j:=by
 intro k
 induction k with
 |zero=>intro _ h;omega
 |succ k ih=>
  intro hk Vb;have E6:=List.getElem?_eq_getElem (l:=ops) (i:=k) om;rw[T.put k _ E6,AF.br];by_cases e:j=k
  ·subst e;rw[E6]at ho;cases ho;rw[if_pos ⟨hd,by rw[T.Rp j om];exact ht⟩]
  ·rw[if_neg (fun h=>X.one k j _ o t E6 ho (fun h=>e h.symm) hd h.1),ih om om]
end
section
variable {P:Program} {E:Env} {μ:ba} {f:AF} {a:Act} {base B:Nat} {h:ah} {w:World} {cf:eT} {rf:dW}
theorem NH (hE:bl P E) (wK:iO P E base B cf) (zi:lG P E base B rf) (zj:lH E cf) (zk:ju rf) {F:Fence} (hF:fT F) {n:Nat} (hf:cB μ f a.tmps) (H:aX E base B μ h w) {o:Oper} {r:QY} (hr:dR E base cf rf o f h=some r) {a1:Act} (hex:execOp a1.eval o=execOp a.eval o)
 {next:Act→World→Prop} {Q:Exit→Act→World→Prop} (hn:∀aK v' w',an aK r.v v'→Step E base B μ h w aK r.h w'→next (a1.put o.dst v') w'):o.wpIn F n P a1 w next Q:=by
 have hg:fB E μ:=H.cW;refine⟨fun _ _=>hF.fn _,?_⟩;rw[Oper.semAt_eq _ _ _ (zh hr),hex];unfold dR at hr;split at hr
 ·rename_i v hp;simp only[Option.some.injEq]at hr;subst hr;obtain⟨v',q1,q2⟩:=nL hE hg hf hp;rw[q2 w];exact hn μ v' w q1 (.refl H)
 ·split at hr
  ·rename_i q hq;simp only[Option.bind_eq_some_iff,Option.some.injEq]at hr;obtain⟨v,hv,rfl⟩:=hr;obtain⟨v',q1,q2⟩:=qZ hE hf H hq hv;rw[q2];exact hn μ v' w q1 (.refl H)
  ·split at hr
   ·rename_i md hd c9;simp only[Option.some.injEq]at hr;subst hr;obtain⟨o',k,hv,S⟩:=lC hE hg hf c9;rw[S.run w];have st:=Step.alloc (o:=md.obj h.size) H (AO.mk' w o') k (fun cs f cu aF hh=>by cases md<;>simp[Made.obj]at hh;exact⟨hh.2.1.symm,hh.2.2.1.symm⟩) (S.obj _ _ _ _ _ (fA H.fresh));exact hn _ _ _ (S.val _ _ _ (bB _ _ _)) st
   ·split at hr
    ·rename_i v h' he;simp only[Option.some.injEq]at hr;subst hr;obtain⟨aK,nx,v',w',q1,q2,q3,q4⟩:=ur hE hf H he;rw[q1];rcases q2 with rfl |⟨rfl,rfl⟩
     ·exact hn aK v' w' q3 q4
     ·exact hn aK undef w' q3 q4
    ·rename_i g args h' he;simp only[Option.bind_eq_some_iff,Option.some.injEq]at hr;obtain⟨⟨v,h2⟩,hc,rfl⟩:=hr;have uu:=zj _ _ _ _ hc;obtain⟨args',e,q1,q2⟩:=o5 hE hf H he uu;subst e;rw[q2];refine⟨hF.ok n,(wK μ h' w g args args' v h2 hc q1 H F (n - 1) hF).mono ?_⟩;rintro e w' ⟨v',aK,rfl,k1,k2⟩;exact hn aK v' w' k1 k2
    ·rename_i l args h' he;simp only[Option.bind_eq_some_iff,Option.some.injEq]at hr;obtain⟨⟨v,h2⟩,hc,rfl⟩:=hr;obtain⟨st,p,f0,ps,gO,body,hl,hlen⟩:=zk _ _ _ _ hc;have hh:h'=h:=by
      obtain⟨dst,op,type,pos,after,guard⟩:=o;cases op<;>simp only[cH]at he<;>first|cases he|skip
      all_goals simp only[Option.bind_eq_some_iff,Option.some.injEq,Prod.mk.injEq,aj,reduceCtorEq,false_and,and_false,exists_false]at he
      ·obtain⟨_,_,_,_,he⟩:=he;split at he
       ·split at he<;>simp at he
       ·cases he
      ·obtain⟨_,_,he⟩:=he;split at he
       ·first|(simp at he;done)|(obtain⟨_,_,he⟩:=he;simp at he;done)|(simp only[Option.bind_eq_some_iff]at he;obtain⟨_,_,he⟩:=he;cases he)
       ·try simp only[Option.bind_eq_some_iff]at he
        obtain⟨_,_,he⟩:=he;split at he
        ·simp at he
        ·simp only[Option.some.injEq,Prod.mk.injEq]at he;exact he.2.symm
        ·cases he
       ·cases he
     subst hh;obtain⟨m,args',lo,_,hb,hw,q1,q2,q3⟩:=o7 (P:=P) hf H he hl hlen;rw[q2];refine⟨hF.ok n,(zi μ h' w l args v h2 m f0 ps gO body st p lo.fn _ hc hl hb H (lI q3 q1) F (n - 1) hF).mono ?_⟩;rintro e w' ⟨v',aK,rfl,k1,k2⟩;exact hn aK v' w' k1 k2
    ·cases hr
def cut (μ:ba) (s:Nat):ba:=fun b=>if b<s then μ b else none
theorem db {μ:ba} {s b:Nat} {m:MT}:cut μ s b=some m↔b<s∧μ b=some m:=by
 unfold cut;split<;>simp[*]
theorem fH {μ aK:ba} (h:μ.le aK) {s t:Nat} (hs:s≤t):(cut μ s).le (cut aK t):=fun b m hb=>by
 have:=db.1 hb;exact db.2 ⟨om,h _ _ this.2⟩
theorem JM {ic μ:ba} (h:ic.le μ) {s:Nat} (hd:∀b m,ic b=some m→b<s):ic.le (cut μ s):=fun b m hb=>db.2 ⟨hd b m hb,h b m hb⟩
theorem aX.JN (H:aX E base B μ h w) {o:ew} (jm:∀cs f cu aF,o= .cells cs f cu aF→f=h.size):aX E base B μ (h.push o) w:=by
 refine⟨fun b m hb=>?_,fun c hc=>?_,fun c m hc=>?_,H.own,fun b1 b2 m1 m2 oW tj hr bc Ax=>?_,fun c m r hc hr=>?_,H.cW,H.low,?_,fun b cs f cu aF hb=>?_,fun c m cs aF hc hg=>?_⟩
 ·have:=H.fy b m hb;simp only[ah.size_push];omega
 ·simp only[ah.size_push]at hc;rw[ah.ak,if_neg om];exact H.high c om
 ·have h1:=H.fy c m hc;obtain⟨p,p',k1,k2,k3⟩:=H.obj c m hc;exact⟨p,p',by rw[ah.ak,if_neg om];exact k1,k2,k3.mono μ.le_refl (by rw[dH H.wf o h1];exact id)⟩
 ·have h1:=H.fy _ _ oW;have k1:=H.fy _ _ tj;obtain⟨r,q1,q2,q3⟩:=H.alias b1 b2 m1 m2 oW tj hr bc Ax;exact⟨r,by rw[ir H.wf o h1];exact q1,by rw[ir H.wf o k1];exact q2,by rw[lA o h1,lA o k1];exact q3⟩
 ·rw[ir H.wf o (H.fy _ _ hc)]at hr;exact H.c8 c m r hc hr
 ·have:=H.lq;simp only[ah.size_push];omega
 ·rw[ah.ak]at hb;by_cases e:b=h.size
  ·rw[if_pos e,Option.some.injEq]at hb;have:=jm _ _ _ _ hb;omega
  ·rw[if_neg e]at hb;exact H.wf _ _ _ _ _ hb
 ·have:=H.fy c m hc;rw[ah.ak,if_neg om]at hg;exact H.root c m cs aF hc hg
theorem aX.E7 (H:aX E base B μ h w) {b:Nat} {o:ew} {o':Obj} {m:MT} (hb:b<h.size) (hg:h.get b=some o) (hn:μ b=none) (bh:base≤b) (hB:B≤m.r) (hw:w.heap[m.r]? =some o')
 (uD:∀c mc,μ c=some mc→mc.r≠m.r) (jm:∀cs f cu aF,o= .cells cs f cu aF→f=b∧b≤cu) (UH:∀cs aF,o= .cells cs b b aF→m.s=0) (ho:gP (jk μ b m) h base b m o o'):aX E base B (jk μ b m) h w:=by
 have hle:μ.le (jk μ b m):=fA hn;have jJ:∀{c:Nat} {mc:MT},jk μ b m c=some mc→(c=b∧mc=m)∨(c≠b∧μ c=some mc):=by
  intro c mc hc;by_cases e:c=b
  ·subst e;rw[bB]at hc;cases hc;exact .inl ⟨rfl,rfl⟩
  ·rw[mM _ _ e]at hc;exact .inr ⟨e,hc⟩
 refine⟨fun c mc hc=>?_,H.high,fun c mc hc=>?_,fun c mc hc hcb=>?_,fun b1 b2 m1 m2 oW tj hr bc Ax=>?_,fun c mc r hc hr=>?_,fun g Rq=>?_,H.low,H.lq,H.wf,fun c mc cs aF hc ry=>?_⟩
 ·rcases jJ hc with⟨rfl,_⟩|⟨_,h2⟩
  ·exact hb
  ·exact H.fy _ _ h2
 ·rcases jJ hc with⟨rfl,rfl⟩|⟨_,h2⟩
  ·exact⟨o,o',hg,hw,ho⟩
  ·obtain⟨p,p',k1,k2,k3⟩:=H.obj c mc h2;exact⟨p,p',k1,k2,k3.mono hle id⟩
 ·rcases jJ hc with⟨rfl,rfl⟩|⟨_,h2⟩
  ·exact hB
  ·exact H.own c mc h2 hcb
 ·rcases jJ oW with⟨rfl,rfl⟩|⟨_,h2⟩<;>rcases jJ tj with⟨rfl,rfl⟩|⟨_,k2⟩
  ·exact absurd rfl bc
  ·exact absurd hr.symm (uD _ _ k2)
  ·exact absurd hr (uD _ _ h2)
  ·exact H.alias b1 b2 m1 m2 h2 k2 hr bc Ax
 ·rcases jJ hc with⟨rfl,rfl⟩|⟨_,h2⟩
  ·obtain⟨cs,t,th,h1⟩:=dr hr;obtain⟨c0,h2⟩:=bw hr;rw[hg,Option.some.injEq]at h1;obtain⟨e1,e2⟩:=jm _ _ _ _ h1;rw[e1,hg,h1,Option.some.injEq,ew.cells.injEq]at h2;exact⟨om,om,mc,by rw[e1,bB]⟩
  ·obtain⟨q1,q2,m',q3⟩:=H.c8 c mc r h2 hr;exact⟨q1,q2,m',hle _ _ q3⟩
 ·obtain⟨mc,q1,q2⟩:=H.cW g Rq;exact⟨mc,hle _ _ q1,q2⟩
 ·rcases jJ hc with⟨rfl,rfl⟩|⟨_,h2⟩
  ·rw[hg,Option.some.injEq]at ry;exact UH cs aF ry
  ·exact H.root c mc cs aF h2 ry
theorem E8 {a b:Value} (h:iq a b=true):a=b:=by
 unfold iq at h;split at h
 ·simpa using h
 ·simp only[Bool.and_eq_true,beq_iff_eq]at h;rw[h.1,h.2]
 ·simp only[beq_iff_eq]at h;exact congrArg _ (ByteArray.ext (Array.ext' h))
 ·simp only[beq_iff_eq]at h;rw[h]
 ·simp only[Bool.and_eq_true,beq_iff_eq,beq_iff]at h;rw[h.1.1,h.1.2,h.2]
 ·simp only[beq_iff_eq]at h;rw[h]
 ·simp only[beq_iff_eq]at h;rw[h]
 ·rfl
 ·rfl
 ·simp only[Bool.and_eq_true,beq_iff_eq,beq_iff]at h;rw[h.1.1,h.1.2,h.2]
 ·simp only[Bool.and_eq_true,beq_iff]at h;obtain⟨⟨⟨⟨h0,h1⟩,h2⟩,h3⟩,h4⟩:=h;rw[h0,Array.eq_empty_of_size_eq_zero h1,Array.eq_empty_of_size_eq_zero h2,Array.eq_empty_of_size_eq_zero h3,Array.eq_empty_of_size_eq_zero h4]
 ·cases h
theorem nO:∀{a b:List Value},fw a b=true→a=b
 |[],[],_=>rfl
 |x::a,y::b,h=>by
  simp only[fw,Bool.and_eq_true]at h;rw[E8 h.1,nO h.2]
 |[],_::_,h=>by simp[fw]at h
 |_::_,[],h=>by simp[fw]at h
theorem JO {a b:Value} (h:Aw a b=true):a=b:=by
 unfold Aw at h;split at h
 ·rw[Array.ext' (nO h)]
 ·exact E8 h
theorem zr:∀{a b:List MapEntry},ub a b=true→a=b
 |[],[],_=>rfl
 |x::a,y::b,h=>by
  simp only[ub,Bool.and_eq_true,beq_iff]at h;obtain⟨⟨⟨h1,h2⟩,h3⟩,h4⟩:=h;rw[zr h4];obtain⟨k,v,n⟩:=x;obtain⟨k',v',n'⟩:=y;simp only at h1 h2 h3;rw[JO h1,JO h2,h3]
 |[],_::_,h=>by simp[ub]at h
 |_::_,[],h=>by simp[ub]at h
theorem Dl {h h':ah} {q:RQ} (hs:eP h h' q=true) (hb:q.cX<h.size):q.run h'=q.run h:=by
 unfold eP at hs;rw[Bool.or_eq_true]at hs;rcases hs with hs|hs;rotate_left
 ·have:h=h':=of_decide_eq_true (inst:=Classical.propDecidable _) hs;rw[this]
 unfold jQ at hs;rw[aI.2 hb]at hs;cases q with
 |cells agg b o n=>
  simp only[cond_true]at hs;simp only[RQ.run];split at hs
  ·rename_i l l' h1 h2;rw[h1,h2,nO hs]
  ·cases hs
 |look r kd k z ok=>
  simp only[cond_true]at hs;simp only[RQ.run];split at hs
  ·rename_i l l' h1 h2;rw[h1,h2];simp only[Option.bind_some];rw[zr hs]
  ·cases hs
 |len r=>
  simp only[cond_true]at hs;simp only[RQ.run];split at hs
  ·rename_i l l' h1 h2;rw[h1,h2];simp only[Option.bind_some];rw[zr hs]
  ·cases hs
theorem JP {h:ah} {q:RQ} {o:ew} (hs:oU h q=true) (hb:q.cX<h.size):q.run (h.push o)=q.run h:=by
 unfold oU at hs;rw[aI.2 hb]at hs;simp only[cond_true]at hs;have hg:(h.push o).get q.cX=h.get q.cX:=by rw[ah.ak,if_neg om]
 cases q with
 |cells agg b o' n=>
  simp only[RQ.cX]at hs hb hg;have hf:(h.push o).c8 b=h.c8 b:=by
   unfold ah.c8;rw[hg];split
   ·rename_i cs f cu aF he;rw[he]at hs;simp only[aI]at hs;rw[ah.ak,if_neg om]
   ·rfl
  simp only[RQ.run,ai,ah.rd,hf,ah.cellsOf,hg]
 |look r kd k z ok=>
  simp only[RQ.cX]at hg;simp only[RQ.run,dV,hg]
 |len r=>
  simp only[RQ.cX]at hg;simp only[RQ.run,dV,hg]
end
end Go.M
