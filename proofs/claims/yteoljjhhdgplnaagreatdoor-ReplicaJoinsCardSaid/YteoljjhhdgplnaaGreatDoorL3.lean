/-
  Part 3 of the library that the proof leans on.
-/
import Derived.Test.YteoljjhhdgplnaaGreatDoorL2
import Derived.Lib.ConvBytes
import Derived.Laws.BytesString
import Derived.RangeFuncLeaves
import Derived.LoopNIn
import Derived.RangeFuncCalls
import Derived.OrdersIn
namespace Go.M
open Go
section
variable {P:Program} {E:Env} {μ:bD} {f:AF} {a:Act} {base B:Nat} {h:ah} {w:World}
theorem GV:∀{l:List Value} {ns:List Int},QA l=some ns→l=ns.map (Value.int .u8)
 |[],ns,h=>by simp[QA]at h;subst h;rfl
 |v::l,ns,h=>by
  cases v<;>try(simp[QA]at h;done)
  rename_i k n;cases k<;>try(simp[QA]at h;done)
  simp only[QA,Option.bind_eq_some_iff,Option.some.injEq]at h;obtain⟨r,h1,rfl⟩:=h;rw[GV h1];rfl
theorem JV (ns:List Int):ns.foldl (fun r n=>r.push (UInt8.ofNat n.toNat)) ByteArray.empty=strOf ns:=by
 have key:∀(ns:List Int) (s:ByteArray),ns.foldl (fun r n=>r.push (UInt8.ofNat n.toNat)) s=⟨s.data++(ns.map fun n=>UInt8.ofNat n.toNat).toArray⟩:=by
  intro ns
  induction ns with
  |nil=>intro s;simp
  |cons n ns ih=>
   intro s;rw[List.foldl_cons,ih];simp[ByteArray.push]
 rw[key];unfold strOf;simp[ByteArray.empty,ByteArray.emptyWithCapacity]
 try rfl
theorem ax.scalars {μ:bD} {l l':List Value} (h:ax μ l l'):l.all scalar=true→l=l':=by
 induction h with
 |nil=>intro _;rfl
 |cons h _ ih=>
  intro hs;simp only[List.all_cons,Bool.and_eq_true]at hs;rw[h.ar hs.1,ih hs.2]
theorem Eu {d:TypeDesc} (h:JM d=true):d= .int .u8:=by
 unfold JM at h;split at h
 ·rfl
 ·cases h
theorem Step.c7 {w':World} (H:bB E base B μ h w) {b:Nat} {m:MT} (hb:μ b=some m) (bG:base≤b) {c:Array Value} {e:TypeId} {fr Qj:Nat×Nat} (ja:w.heap[m.r]? =some (.cells c e fr)) (hf:qi Qj c.size) (hu:Ej w m.r (.cells c e Qj) w'):Step E base B μ h w μ h w':=by
 refine⟨⟨H.g8,H.high,fun b' m' cA=>?_,H.own,H.alias,H.dQ,H.dN,by rw[hu.size];exact H.low,H.mF,H.wf,H.root⟩,⟨hu.tape,hu.os,hu.output,by rw[hu.size];exact Nat.le_refl _,fun r hr hk=>?_⟩,μ.le_refl,(fun c mc h0 hc=>by rw[h0]at hc;cases hc),fun _ _ _=>rfl,Nat.le_refl _⟩
 ·obtain⟨o,o',k1,k2,k3⟩:=H.obj b' m' cA;by_cases er:m'.r=m.r
  ·rw[er,ja]at k2;cases k2;refine⟨o,.cells c e Qj,k1,by rw[er,hu.get,if_pos rfl],?_⟩;cases k3 with
   |cells hn hl BP hc=>exact .cells hn hl (fun _=>by rw[←hn];exact hf) hc
   |iA hp hs hc hn=>exact .iA hp hs hc hn
  ·exact⟨o,o',k1,by rw[hu.get,if_neg er];exact k2,k3⟩
 ·rw[hu.get,if_neg];intro e;have:=hk b m hb e.symm;omega
theorem run_mark (w:World) {r:Nat} {off:Nat} {c:Array Value} {e:TypeId} {fr:Nat×Nat} (ja:w.heap[r]? =some (.cells c e fr)) (u8 src:TypeId) (hs:P.underlying src=some (.slice u8)) (he:P.underlying u8=some (.int .u8)) (len cap:Nat):
 ∃w',(convert src src (.slice (some ⟨r,off,none⟩) len cap)).run P w= .ok (.slice (some ⟨r,off,none⟩) len cap) w'∧Ej w r (.cells c e (if fr.1==fr.2 then(c.size,c.size+1)else(min fr.1 c.size,max fr.2 (c.size+1)))) w':=by
 have hsh:w.shape? r=some (e,c.size):=by simp[World.shape?,ja]
 refine⟨w.freeze ⟨r,c.size,none⟩ 1,?_,?_⟩
 ·simp[convert,run_underlying hs,run_underlying he,markStringish,hsh]
 ·have bw:r<w.heap.size:=(Array.getElem?_eq_some_iff.1 ja).1;refine⟨by simp[World.freeze],by simp[World.freeze],by simp[World.freeze],by simp[World.freeze],fun k=>?_⟩;by_cases ek:k=r
  ·subst ek;rw[if_pos rfl];simp[World.freeze,Array.getElem?_modify,ja]
  ·rw[if_neg ek];simp[World.freeze,Array.getElem?_modify,Ne.symm ek]
theorem QV (hE:bK P E) (H:bB E base B μ h w) {s d:TypeId} {x x' v:Value} {h':ah} (ha:tO E base h s d x=some (v,h')) (hx:aq μ x x'):kz P E base B μ h w (convert s d x') v h':=by
 unfold tO at ha;simp only[Option.bind_eq_some_iff]at ha;obtain⟨sd,hs,dd,hd,ha⟩:=ha;split at ha
 ·rename_i e str;simp only[Option.bind_eq_some_iff,aj,Option.some.injEq]at ha;obtain⟨ed,he,hu,ha⟩:=ha;cases Eu hu;cases hx.ar rfl;have ia:=Lib.run_convert_string_bytes (P:=P) w s d e str (hE.desc s _ hs) (hE.desc d _ hd) (hE.desc e _ he);have fq:(Lib.bytesCells w e str).size=grownCap w str.size 0 e:=by
   have:str.size≤grownCap w str.size 0 e:=by simp[grownCap,Question.cut]
   simp[Lib.bytesCells];have e:str.data.size=str.size:=rfl;omega
  have hle:str.size≤grownCap w str.size 0 e:=by simp[grownCap,Question.cut]
  let N:=grownCap w str.size 0 e
  have dh:GI w (.cells (Lib.bytesCells w e str) e (N,N+1)) (Lib.bytesWorld w e str):=by
   refine⟨by simp[Lib.bytesWorld,World.freeze,World.alloc,World.drew,-World.alloc_eq,-World.drew_eq],by simp[Lib.bytesWorld,World.freeze,World.alloc,World.drew,-World.alloc_eq,-World.drew_eq],by simp[Lib.bytesWorld,World.freeze,World.alloc,World.drew,-World.alloc_eq,-World.drew_eq],Lib.bytesWorld_size w e str,fun k=>?_⟩;by_cases ek:k=w.heap.size
   ·subst ek;rw[if_pos rfl,Lib.bytesWorld_at_new,fq]
   ·rw[if_neg ek];rcases Nat.lt_or_ge k w.heap.size with h1|h1
    ·exact Lib.bytesWorld_at_old w e str k h1
    ·rw[Array.getElem?_eq_none h1,Array.getElem?_eq_none (by rw[Lib.bytesWorld_size];omega)]
  have wm:∀(i:Nat) u,(fV str)[i]? =some u→∃u',(Lib.bytesCells w e str)[i]? =some u'∧∀bd,aq bd u u':=by
   intro i u hu;have hi:=(List.getElem?_eq_some_iff.1 hu).1;refine⟨u,?_,fun bd=>?_⟩
   ·unfold Lib.bytesCells;rw[Array.getElem?_append_left (by simpa[fV]using hi),←Array.getElem?_toList,Array.toList_map];exact hu
   ·simp only[fV,List.getElem?_map,Option.map_eq_some_iff]at hu;obtain⟨b,_,rfl⟩:=hu;exact .int _ _ _
  have st:=Step.alloc H dh N (o:=.cells (fV str) h.size h.size 0) (fun cs f dj aS hh=>by cases hh;exact⟨rfl,rfl⟩) (by
   refine .cells fq (by simp[fV];exact hle) (fun _=>QC N) fun _ i u hu=>?_;obtain⟨u',q1,q2⟩:=wm i u hu;exact⟨u',by simpa using q1,q2 _⟩)
  have e1:fresh h (fV str) 1 str.size=(.slice (some ⟨h.size,0,some 1⟩) str.size (str.size+1),h.push (.cells (fV str) h.size h.size 0)):=rfl;rw[e1]at ha;obtain⟨rfl,rfl⟩:=Prod.mk.inj ha;refine⟨_,_,_,ia,?_,st⟩;have:=aq.slice (o:=0) (z:=1) (len:=str.size) (cap:=str.size+1) (cap':=N) (bY μ h.size ⟨w.heap.size,0,N⟩) om hle (fun h=>by omega) (by simp);simpa using this
 ·rename_i e b o z len cap;simp only[Option.bind_eq_some_iff,aj,Bool.and_eq_true,beq_iff,aL,bc]at ha;obtain⟨ed,he,⟨⟨⟨⟨hu,hsd⟩,bG⟩,gW⟩,y8⟩,ha⟩:=ha;cases Eu hu;subst hsd;split at ha
  ·rename_i e2;rw[hs]at hd;cases hd;simp only[Option.some.injEq,Prod.mk.injEq]at ha;obtain⟨rfl,rfl⟩:=ha;obtain⟨cs,s9⟩:=Option.isSome_iff_exists.1 gW;generalize hq:Value.slice (some ⟨b,o,some z⟩) len cap=q at hx;cases hx with
   |slice hb k1 k2 k3 k4=>
    cases hq;obtain⟨c,e',fr,q1,q2,q3,q4,q5⟩:=H.read hb s9;obtain⟨w',r1,r2⟩:=run_mark (P:=P) w q1 e s (hE.desc s _ hs) (hE.desc e _ he) _ _;refine⟨μ,_,w',r1,.slice hb k1 k2 k3 k4,Step.c7 H hb bG q1 ?_ r2⟩;have:=q4 bG;rw[←q2]at this;exact this.mark
   |dr hb=>
    cases hq;omega
   |lit hh=>subst hq;simp[ay]at hh
   |_=>cases hq
  ·cases ha
 ·rename_i a len cap;split at ha
  ·rename_i e;simp only[Option.bind_eq_some_iff,aj]at ha;obtain⟨ed,he,hu,ha⟩:=ha;cases Eu hu;have conv:=fun(a':Option Addr) (c' l':Nat)=>run_convert_bytes_string (P:=P) w s d e a' l' c' (hE.desc s _ hs) (hE.desc e _ he) (hE.desc d _ hd)
   have fin:∀(ns:List Int) (ad:Addr) (l' c':Nat),x'= .slice (some ad) l' c'→(loadCells ad l').run P w= .ok (ns.map (Value.int .u8)).toArray w→kz P E base B μ h w (convert s d x') (.string (strOf ns)) h:=by
    intro ns ad l' c' ex ZG;refine⟨μ,_,w,by rw[ex,conv,run_bytesToString w ad l' c' ns ZG,JV],.string μ _,.refl H⟩
   rw[cu]at ha;split at ha
   ·rename_i h0;rw[beq_iff]at h0;subst h0;simp only[Option.some.injEq,Prod.mk.injEq]at ha;obtain⟨rfl,rfl⟩:=ha;generalize hq:Value.slice a 0 cap=q at hx;cases hx with
    |slice hb k1 k2 k3 k4=>cases hq;exact fin [] _ _ _ rfl (by simp[loadCells,loadCellsFrom])
    |dr hb=>cases hq;exact fin [] _ _ _ rfl (by simp[loadCells,loadCellsFrom])
    |lit hh=>
     subst hq;cases a with
     |none=>exact⟨μ,_,w,by rw[conv];simp[Conv.bytesToString];rfl,.string μ _,.refl H⟩
     |some a=>simp[ay]at hh
    |_=>cases hq
   simp only[Option.bind_eq_some_iff,Option.some.injEq,Prod.mk.injEq]at ha;obtain⟨l,hl,ns,Ep,rfl,rfl⟩:=ha;have el:=GV Ep;unfold fL at hl;split at hl
   ·rename_i b o z VA adM ex;cases ex;generalize hq:Value.slice (some ⟨b,o,some z⟩) len cap=q at hx;cases hx with
    |slice hb k1 k2 k3 k4=>
     rename_i m;cases hq;obtain⟨l',r1,r2⟩:=H.CG hb hl;have zS:=(H.ai hb hl).1;have e2:l'=ns.map (Value.int .u8):=by
      have:=ax.scalars r1 (by
       rw[el,List.all_eq_true];intro v hv;obtain⟨n,_,rfl⟩:=List.mem_map.1 hv;rfl)
      rw[←el,this]
     refine fin ns _ _ _ rfl ?_;simp only[loadCells];have Mc:l'.length=len:=by rw[←r1.length,zS];omega
     rw[run_loadCells len 0 #[] l' Mc (fun k v hv=>by rw[ij];have:=r2 k v hv;simpa[World.cell?]using this)];simp[e2]
    |dr hb=>
     cases hq;have:=BY (by simpa using hl);subst this;simp[QA]at Ep;subst Ep;exact fin [] _ _ _ rfl (by simp[loadCells,loadCellsFrom])
    |lit hh=>subst hq;simp[ay]at hh
    |_=>cases hq
   ·rename_i VA adM ex;cases ex;simp only[Option.some.injEq]at hl;subst hl;simp[QA]at Ep;subst Ep;cases hx with
    |lit hh=>
     refine⟨μ,_,w,by rw[conv];simp[Conv.bytesToString];rfl,.string μ _,.refl H⟩
   ·rename_i ex;cases ex
   ·cases hl
  ·cases ha
 ·cases ha
end
section
variable {P:Program} {E:Env} {μ:bD} {f:AF} {a:Act} {base B:Nat} {h:ah} {w:World}
theorem Ev {a b:ByteArray} (h:(a==b)=true):a=b:=by
 rw[beq_toListBytes,ByteArray.toList_eq,ByteArray.toList_eq]at h;have:=eq_of_beq h;obtain⟨⟨x⟩⟩:=a;obtain⟨⟨y⟩⟩:=b;simp at this;rw[this]
def adR (nx:Next) (v':Value):Prop:=nx= .value v'∨(nx= .skip∧v'=undef)
set_option maxHeartbeats 1000000 in
set_option maxHeartbeats 1000000 in
theorem zT (hE:bK P E) (hf:du μ f a.tmps) (H:bB E base B μ h w) {o:Oper} {v:Value} {h':ah} (ha:dk E base f o h=some (.val v,h')):
 ∃bd nx v' w',(execOp a.eval o).run P w= .ok nx w'∧adR nx v'∧aq bd v v'∧Step E base B μ h w bd h' w':=by
 have hg:hZ E μ:=H.dN;obtain⟨dst,op,type,pos,after,guard⟩:=o;cases op
 case store t x y=>
  simp only[dk,Option.bind_eq_some_iff,aj,Bool.and_eq_true,beq_iff,Option.some.injEq,Prod.mk.injEq,mj.val.injEq]at ha;obtain⟨av,h1,v1,h2,n,h3,p,h4,⟨h5,lL⟩,cs,gW,cs',ft,h6,lM,rfl,rfl⟩:=ha;have e:=lE h4;subst e;obtain⟨m,hb,ex⟩:=(bq hg hf h1).kP;have hv:=bq hg hf h2;obtain⟨w',q1,q2⟩:=wu (P:=P) H hb gW ft lM hv.cells lL;refine⟨μ,.skip,undef,w',?_,.inr ⟨rfl,rfl⟩,.undef μ,q2⟩;have fq:(a.eval y).cells.size=n:=by rw[←hv.zF];exact h5
  simp only[execOp,Instr.storeAt,Sem.run_bind,ex,Instr.sureAddr,Sem.run_pure,Result.andThen_ok,storeVar,gF hE h3 w];rw[if_neg (by simpa using fq)];simp only[q1,Result.andThen_ok]
 case mapUpdate t mm kk x|insert t mm kk x=>
  simp only[dk,Option.bind_eq_some_iff,Option.some.injEq,Prod.mk.injEq,mj.val.injEq]at ha;obtain⟨mv,h1,k,h2,v1,h3,h4,h5,rfl,rfl⟩:=ha;unfold oS at h5;simp only[Option.bind_eq_some_iff]at h5;obtain⟨d,hd,h5⟩:=h5;split at h5
  ·rename_i kt et r;simp only[Option.bind_eq_some_iff,aj,Bool.and_eq_true,aL]at h5;obtain⟨kd,ji,⟨⟨bG,bz⟩,CI⟩,h5⟩:=h5;split at h5
   ·rename_i es clock QU;obtain⟨m,hb,ex⟩:=(bq hg hf h1).mE;have ek:=(bq hg hf h2).ar CI;have hv:=bq hg hf h3;obtain⟨o1,o2,k1,k2,k3⟩:=H.obj r m hb;rw[QU]at k1;cases k1;cases k3 with
    |map hs=>
     rename_i cb;simp only[Option.bind_eq_some_iff]at h5;obtain⟨fr,v8,h5⟩:=h5;obtain⟨Qj,q1,q2,q3⟩:=ke hs v8;have GO:(Instr.findKey kt k cb.toList).run P w= .ok Qj w:=by
      simp only[Instr.findKey,Sem.run_bind,aM hE ji w,Result.andThen_ok,q1,Sem.run_pure]
     have yK:=lF (P:=P) hE ji bz false 9999 k w;have rZ:=run_getObj_map (P:=P) k2 (fun _ _ _=>by simp);have Mb:=fun o=>cJ (P:=P) (o:=o) k2 (fun _ _ _=>by simp);have hkr:aq μ k k:=.rV μ CI;cases fr with
     |none=>
      have e:=q2 rfl;subst e;simp only[Option.some.injEq]at h5;subst h5;have st:=Step.put (o:=.map (es++[{key:=k,val:=v1,born:=clock}]) (clock+1)) H hb bG QU rfl rfl (Ej.set w m.r (.map (cb.push {key:=k,val:=a.eval x,born:=clock}) (clock+1)) (H.lt hb)) (.map (by
       simpa using hs.append (cZ.cons (e:={key:=k,val:=v1,born:=clock}) (e':={key:=k,val:=a.eval x,born:=clock}) hkr hv rfl .nil)))
      refine⟨μ,.skip,undef,_,?_,.inr ⟨rfl,rfl⟩,.undef μ,st⟩;simp only[execOp,Instr.mapUpdate,Sem.run_bind,aM hE hd w,Result.andThen_ok,ex,ek,rZ,yK,GO,Mb];rfl
     |some jv=>
      obtain⟨v',e,hr⟩:=q3 jv.1 jv.2 rfl;subst e;simp only[Option.some.injEq]at h5;subst h5;have hsb:Instr.sameBits 10000 (((cb[jv.1]?).map (·.key)).getD k) k=true:=by
       have hh:∀{es:List MapEntry} {i j:Nat} {v:Value},Instr.findNow kd k es i=some (some (j,v))→∃e,es[j - i]? =some e∧e.key=k∧i≤j:=by
        intro es
        induction es with
        |nil=>intro i j v hq;simp[Instr.findNow]at hq
        |cons e0 es0 ih=>
         intro i j v hq;simp only[Instr.findNow]at hq;split at hq
         ·rename_i QW;simp only[Option.some.injEq,Prod.mk.injEq]at hq;obtain⟨rfl,_⟩:=hq;refine⟨e0,by simp,?_,Nat.le_refl _⟩;unfold Instr.sameNow at QW;split at QW
          ·rename_i z1;split at QW
           ·rename_i z2;subst z2;simp only[Option.some.injEq,beq_iff_eq]at QW;rw[z1,QW]
           ·cases QW
          ·rename_i z1;simp only[Option.some.injEq]at QW;rw[z1,Ev QW]
          ·rename_i z1;simp only[Option.some.injEq,beq_iff_eq]at QW;rw[z1,QW]
          ·cases QW
         ·obtain⟨e1,p1,p2,p3⟩:=ih hq;refine⟨e1,?_,p2,om⟩;have:j - i=(j - (i+1))+1:=by omega
          rw[this];simpa using p1
         ·cases hq
       obtain⟨e1,p1,p2,_⟩:=hh q1;have p1':cb[jv.1]? =some e1:=by simpa using p1
       rw[p1'];simp only[Option.map_some,Option.getD_some,p2];cases k<;>simp[scalar]at CI<;>first|(simp[Instr.sameBits];done)|(simp only[Instr.sameBits];rw[beq_toListBytes];simp)
      have st:=Step.put (o:=.map (es.modify jv.1 fun e=>{e with key:=k,val:=v1}) clock) H hb bG QU rfl rfl (Ej.set w m.r (.map (cb.modify jv.1 fun e=>{e with key:=k,val:=a.eval x}) clock) (H.lt hb)) (.map (by
       have:=hs.modify (g:=fun e=>{e with key:=k,val:=v1}) (g':=fun e=>{e with key:=k,val:=a.eval x}) (fun e e' _ _ hb=>⟨hkr,hv,hb⟩) jv.1;simpa using this))
      refine⟨μ,.skip,undef,_,?_,.inr ⟨rfl,rfl⟩,.undef μ,st⟩;simp only[execOp,Instr.mapUpdate,Sem.run_bind,aM hE hd w,Result.andThen_ok,ex,ek,rZ,yK,GO];unfold Instr.keyThatStays;rw[hsb];simp only[if_true,Sem.run_pure,Result.andThen_ok,Mb]
   ·cases h5
  ·cases h5
 case range t x=>
  simp only[dk,Option.bind_eq_some_iff]at ha;obtain⟨d,hd,v1,h1,ha⟩:=ha;split at ha
  ·rename_i kt et r;split at ha
   ·rename_i es clock QU;simp only[Option.some.injEq,Prod.mk.injEq,mj.val.injEq]at ha;obtain⟨rfl,rfl⟩:=ha;obtain⟨m,hb,ex⟩:=(bq hg hf h1).mE;obtain⟨o1,o2,k1,k2,k3⟩:=H.obj r m hb;rw[QU]at k1;cases k1;cases k3 with
    |map hs=>
     have rZ:=run_getObj_map (P:=P) k2 (fun _ _ _=>by simp);have hle:μ.le (lr μ h.size ⟨w.heap.size,0,0⟩):=g9 H.fresh;have st:=Step.alloc (o:=.cV (some r) clock [] clock) H (GI.mk' w (.mapIter (some m.r) clock #[] clock)) 0 (fun _ _ _ _ hh=>by cases hh) (by
      have:=jA.cV (μ:=lr μ h.size ⟨w.heap.size,0,0⟩) (h:=h.push (.cV (some r) clock [] clock)) (base:=base) (b:=h.size) (m:=⟨w.heap.size,0,0⟩) (since:=clock) (last:=clock) (seen:=[]) (hle _ _ hb) rfl;simpa using this)
     refine⟨_,_,.pointer (some ⟨w.heap.size,0,none⟩),_,?_,.inl rfl,?_,st⟩
     ·simp only[execOp,Instr.range,Sem.run_bind,aM hE hd w,Result.andThen_ok,ex,rZ,Sem.run_pure,run_newObj]
     ·have:=aq.ptr (o:=0) (bY μ h.size ⟨w.heap.size,0,0⟩);simpa using this
   ·cases ha
  ·cases ha
 case convert sT d x=>
  simp only[dk,Option.bind_eq_some_iff,Option.some.injEq,Prod.mk.injEq,mj.val.injEq]at ha;obtain⟨v1,h1,⟨v2,U6⟩,h3,rfl,rfl⟩:=ha;obtain⟨bd,v',w',q1,q2,q3⟩:=QV (P:=P) hE H h3 (bq hg hf h1);refine⟨bd,.value v',v',w',?_,.inl rfl,q2,q3⟩;simp only[execOp,Sem.run_bind,q1,Result.andThen_ok,Sem.run_pure]
 case next it isStr=>
  simp only[dk,Option.bind_eq_some_iff,Option.some.injEq,Prod.mk.injEq,mj.val.injEq]at ha;obtain⟨v1,h1,r,h2,⟨v2,U6⟩,h3,rfl,rfl⟩:=ha;have e:=qp h2;subst e;obtain⟨m,hb,ex⟩:=(bq hg hf h1).kP;have kc:m.s=0:=by
   obtain⟨o1,o2,k1,k2,k3⟩:=H.obj r m hb;unfold LZ at h3;simp only[aj]at h3;cases k3 with
   |jE hs=>exact hs
   |nh hs=>exact hs
   |cV _ hs=>exact hs
   |_=>rw[k1]at h3;simp at h3
  obtain⟨bd,v',w',q1,q2,q3⟩:=QT (P:=P) H type h3 hb;refine⟨bd,.value v',v',w',?_,.inl rfl,q2,q3⟩;rw[kc]at ex;simp only[execOp,Sem.run_bind,ex,q1,Result.andThen_ok,Sem.run_pure]
 case entry it=>
  simp only[dk,Option.bind_eq_some_iff,Option.some.injEq,Prod.mk.injEq,mj.val.injEq]at ha;obtain⟨v1,h1,r,h2,v2,h3,rfl,rfl⟩:=ha;have e:=qp h2;subst e;obtain⟨m,hb,ex⟩:=(bq hg hf h1).kP;have kc:m.s=0:=by
   obtain⟨o1,o2,k1,k2,k3⟩:=H.obj r m hb;unfold qg at h3;cases k3 with
   |jE hs=>exact hs
   |nh hs=>exact hs
   |cV _ hs=>exact hs
   |_=>rw[k1]at h3;simp at h3
  obtain⟨v',q1,q2⟩:=NV (P:=P) H h3 hb;refine⟨μ,.value v',v',w,?_,.inl rfl,q1,.refl H⟩;rw[kc]at ex;simp only[execOp,Sem.run_bind,ex,q2,Result.andThen_ok,Sem.run_pure]
 case call c=>
  simp only[dk,Option.bind_eq_some_iff]at ha;obtain⟨args,h1,ha⟩:=ha;have hr:=kS hg hf h1;split at ha
  ·rename_i b Es;simp only[Option.bind_eq_some_iff,Option.some.injEq,Prod.mk.injEq,mj.val.injEq]at ha;obtain⟨⟨v1,BO⟩,h2,rfl,rfl⟩:=ha;obtain⟨s,⟨bd,v',w',q1,q2,q3⟩,hs⟩:=JT hE H (ts:=c.argTypes) (args':=c.args.map a.eval) type h2 (by simpa using hr);refine⟨bd,.value v',v',w',?_,.inl rfl,q2,q3⟩;simp only[execOp,resolve,Es,Sem.run_bind,Sem.run_pure,Result.andThen_ok,invoke];rw[hs _];simp only[Sem.run_bind,q1,Result.andThen_ok,Sem.run_pure]
  ·simp only[Option.bind_eq_some_iff]at ha;obtain⟨g,_,ha⟩:=ha;split at ha<;>simp at ha
  ·cases ha
 all_goals(simp only[dk]at ha;cases ha)
theorem tW (hE:bK P E) (hf:du μ f a.tmps) (H:bB E base B μ h w) {o:Oper} {g:FuncId} {args:List Value} {h':ah} (ha:dk E base f o h=some (.enter g args,h')) (zU:(E.func g).isSome=true):
 ∃args':Array Value,h'=h∧ax μ args args'.toList∧(execOp a.eval o).run P w= .ok (.enter g args') w:=by
 have hg:hZ E μ:=H.dN;obtain⟨dst,op,type,pos,after,guard⟩:=o;cases op
 case call c=>
  simp only[dk,Option.bind_eq_some_iff]at ha;obtain⟨asv,h1,ha⟩:=ha;have hr:=kS hg hf h1;split at ha
  ·simp only[Option.bind_eq_some_iff,Option.some.injEq,Prod.mk.injEq]at ha;obtain⟨_,_,h2,_⟩:=ha;cases h2
  ·rename_i gx Es;simp only[Option.bind_eq_some_iff]at ha;obtain⟨gv,h2,ha⟩:=ha;split at ha
   ·rename_i gid first captured
    simp only[Option.some.injEq,Prod.mk.injEq,mj.enter.injEq]at ha;obtain⟨⟨rfl,rfl⟩,rfl⟩:=ha;have BQ:=bq hg hf h2;generalize hq:a.eval gx=q at BQ;cases BQ with
    |lit hh=>simp[ay]at hh
    |func q1 q2 q3 q4=>
     rename_i tX jJ;refine⟨tX++c.args.map a.eval++jJ,rfl,?_,?_⟩
     ·simp only[Array.toList_append,Array.toList_map];exact((ax.oU q1 q2).append hr).append (ax.oU q3 q4)
     ·obtain⟨fn,hfn⟩:=Option.isSome_iff_exists.1 zU;obtain⟨f1,f2,f3⟩:=hE.func _ _ hfn;have hb:fn.body.isNone=false:=by cases hx:fn.body<;>simp_all
      simp only[execOp,resolve,Es,Sem.run_bind,Sem.run_pure,Result.andThen_ok,hq,Deferred.ofValue,invoke,callFunc,run_program,f1,f3,hb,Bool.false_eq_true,if_false]
   ·simp at ha
   ·cases ha
  ·cases ha
 all_goals(simp only[dk]at ha;first|cases ha|(simp only[Option.bind_eq_some_iff,Option.some.injEq,Prod.mk.injEq,aj,reduceCtorEq,false_and,and_false,exists_false]at ha)|skip)
 case range t x=>
  obtain⟨_,_,_,_,ha⟩:=ha;split at ha
  ·split at ha<;>simp at ha
  ·cases ha
theorem tY (hf:du μ f a.tmps) (H:bB E base B μ h w) {o:Oper} {l:Nat} {args:List Value} {h':ah} (ha:dk E base f o h=some (.round l args,h')) {st:LoopState} {p:Option Code} {f0:AF} {ps:List Tmp} {gS body:Code}
 (hl:h.get l=some (.loop st p f0 ps gS body)) (hlen:ps.length=args.length):
 ∃(m:MT) (args':List Value) (lo:Loop),h'=h∧μ l=some m∧w.heap[m.r]? =some (.loop lo)∧ax μ args args'∧
  (execOp a.eval o).run P w= .ok (.round m.r lo.fn ((ps.zip args').foldl (fun tmps (t,a)=>tmps.setIfInBounds t a) lo.tmps) gS body) w∧du μ f0 lo.tmps:=by
 have hg:hZ E μ:=H.dN;obtain⟨dst,op,type,pos,after,guard⟩:=o;cases op
 case call c=>
  simp only[dk,Option.bind_eq_some_iff]at ha;obtain⟨asv,h1,ha⟩:=ha;have hr:=kS hg hf h1;split at ha
  ·simp only[Option.bind_eq_some_iff,Option.some.injEq,Prod.mk.injEq]at ha;obtain⟨_,_,h2,_⟩:=ha;cases h2
  ·rename_i gx Es;simp only[Option.bind_eq_some_iff]at ha;obtain⟨gv,h2,ha⟩:=ha;split at ha
   ·simp at ha
   ·rename_i l0 first captured
    simp only[Option.some.injEq,Prod.mk.injEq,mj.round.injEq]at ha;obtain⟨⟨rfl,rfl⟩,rfl⟩:=ha;have BQ:=bq hg hf h2;generalize hq:a.eval gx=q at BQ;cases BQ with
    |lit hh=>simp[ay]at hh
    |yield hb=>
     rename_i m;obtain⟨o1,o2,k1,k2,k3⟩:=H.obj l0 m hb;rw[hl]at k1;cases k1;cases k3 with
     |loop v8=>
      rename_i fn tmps d;have rZ:=run_getObj_map (P:=P) k2 (fun _ _ _=>by simp);refine⟨m,c.args.toList.map a.eval,_,rfl,hb,k2,by simpa using hr,?_,v8⟩;have Mc:=hr.length;have fq:(c.args.map a.eval).size=ps.toArray.size:=by
       simp at hlen Mc ⊢;omega
      simp only[execOp,resolve,Es,Sem.run_bind,Sem.run_pure,Result.andThen_ok,hq,Deferred.ofValue,invoke,Instr.yield,Instr.getLoop,rZ];rw[if_neg (by simpa using fq)];have ez:(ps.toArray.zip (#[]++c.args.map a.eval))=(ps.zip (c.args.toList.map a.eval)).toArray:=by
       apply Array.ext';simp
      simp only[ez,Sem.run_pure,List.foldl_toArray]
   ·cases ha
  ·cases ha
 all_goals(simp only[dk]at ha;first|cases ha|(simp only[Option.bind_eq_some_iff,Option.some.injEq,Prod.mk.injEq,aj,reduceCtorEq,false_and,and_false,exists_false]at ha)|skip)
 case range t x=>
  obtain⟨_,_,_,_,ha⟩:=ha;split at ha
  ·split at ha<;>simp at ha
  ·cases ha
end
structure iH (F:Fence):Prop where
 fn:∀f,F.fn f
 depth:F.depth=none
 dead:F.alive=false
theorem iH.inRound {F:Fence} (h:iH F) (l:Nat):iH (F.inRound l):=⟨h.fn,h.depth,h.dead⟩
theorem iH.plain {F:Fence} (h:iH F):iH F.plain:=⟨h.fn,h.depth,h.dead⟩
theorem iH.wide:iH Fence.wide:=⟨fun _=>trivial,rfl,rfl⟩
theorem iH.ok {F:Fence} (h:iH F) (n:Nat):F.depth.isSome=true→1≤n:=by rw[h.depth];intro h;simp at h
def o5 (E:Env) (base B:Nat) (μ:bD) (h:ah) (w:World) (v:Value) (h':ah):Ending→World→Prop:=
 fun e w'=>∃v' bd,e= .returned v'∧aq bd v v'∧Step E base B μ h w bd h' w'
def kA (P:Program) (E:Env) (base B:Nat) (cf:fk):Prop:=
 ∀(μ:bD) (h:ah) (w:World) (g:FuncId) (args:List Value) (args':Array Value) (v:Value) (h':ah),cf g args h=some (v,h')→ax μ args args'.toList→bB E base B μ h w→
  ∀(F:Fence) (n:Nat),iH F→CallsIn F n P g args' w (o5 E base B μ h w v h')
def o6 (P:Program) (E:Env) (base B:Nat) (rf:eD):Prop:=
 ∀(μ:bD) (h:ah) (w:World) (l:Nat) (args:List Value) (v:Value) (h':ah) (m:MT) (f0:AF) (ps:List Tmp) (gS body:Code) (st:LoopState) (p:Option Code) (fn:FuncId) (tmps:Array Value),
  rf l args h=some (v,h')→h.get l=some (.loop st p f0 ps gS body)→μ l=some m→bB E base B μ h w→du μ (AF.jc (ps.zip args) f0) tmps→
  ∀(F:Fence) (n:Nat),iH F→RoundIn F n P m.r fn tmps gS body w (o5 E base B μ h w v h')
def o7 (E:Env) (cf:fk):Prop:=∀g args h r,cf g args h=some r→(E.func g).isSome=true
def lN (rf:eD):Prop:=∀l args h r,rf l args h=some r→∃st p f0 ps gS body,h.get l=some (.loop st p f0 ps gS body)∧ps.length=args.length
section
variable {P:Program} {E:Env} {μ:bD} {f:AF} {a:Act} {base B:Nat} {h:ah} {w:World} {cf:fk} {rf:eD}
theorem o8 {μ:bD}:∀{ps:List Tmp} {args args':List Value} {f:AF} {tmps:Array Value},du μ f tmps→ax μ args args'→du μ (AF.jc (ps.zip args) f) ((ps.zip args').foldl (fun tmps (t,a)=>tmps.setIfInBounds t a) tmps)
 |[],args,args',f,tmps,hf,_=>by simpa[AF.jc]using hf
 |p::ps,_,_,f,tmps,hf,.nil=>by simpa[AF.jc]using hf
 |p::ps,_,_,f,tmps,hf,.cons hv ht=>by
  simp only[List.zip_cons_cons,AF.jc,List.foldl_cons];exact o8 (hf.set hv p) ht
theorem Ew {o:Oper} {r:Zp} (h:eM E base cf rf o f h=some r):∀c,o.op≠ .defer c:=by
 intro c hc;unfold eM at h;simp only[aO,bP,bt,dk,hc]at h;cases h
theorem ZH (hE:bK P E) (B0:kA P E base B cf) (Ey:o6 P E base B rf) (Ez:o7 E cf) (EA:lN rf) {F:Fence} (hF:iH F) {n:Nat} (hf:du μ f a.tmps) (H:bB E base B μ h w) {o:Oper} {r:Zp} (hr:eM E base cf rf o f h=some r)
 {next:Act→World→Prop} {Q:Exit→Act→World→Prop} (hn:∀bd v' w',aq bd r.v v'→Step E base B μ h w bd r.h w'→next (a.put o.dst v') w'):o.wpIn F n P a w next Q:=by
 have hg:hZ E μ:=H.dN;refine⟨fun _ _=>hF.fn _,?_⟩;rw[Oper.semAt_eq _ _ _ (Ew hr)];unfold eM at hr;split at hr
 ·rename_i v hp;simp only[Option.some.injEq]at hr;subst hr;obtain⟨v',q1,q2⟩:=rX hE hg hf hp;rw[q2 w];exact hn μ v' w q1 (.refl H)
 ·split at hr
  ·rename_i q hq;simp only[Option.bind_eq_some_iff,Option.some.injEq]at hr;obtain⟨v,hv,rfl⟩:=hr;obtain⟨v',q1,q2⟩:=wq hE hf H hq hv;rw[q2];exact hn μ v' w q1 (.refl H)
  ·split at hr
   ·rename_i md hd dh;simp only[Option.some.injEq]at hr;subst hr;obtain⟨o',k,hv,S⟩:=oX hE hg hf dh;rw[S.run w];have st:=Step.alloc (o:=md.obj h.size) H (GI.mk' w o') k (fun cs f dj aS hh=>by cases md<;>simp[Made.obj]at hh;exact⟨hh.2.1.symm,hh.2.2.1.symm⟩) (S.obj _ _ _ _ _ (g9 H.fresh));exact hn _ _ _ (S.val _ _ _ (bY _ _ _)) st
   ·split at hr
    ·rename_i v h' he;simp only[Option.some.injEq]at hr;subst hr;obtain⟨bd,nx,v',w',q1,q2,q3,q4⟩:=zT hE hf H he;rw[q1];rcases q2 with rfl |⟨rfl,rfl⟩
     ·exact hn bd v' w' q3 q4
     ·exact hn bd undef w' q3 q4
    ·rename_i g args h' he;simp only[Option.bind_eq_some_iff,Option.some.injEq]at hr;obtain⟨⟨v,h2⟩,hc,rfl⟩:=hr;have zU:=Ez _ _ _ _ hc;obtain⟨args',e,q1,q2⟩:=tW hE hf H he zU;subst e;rw[q2];refine⟨hF.ok n,(B0 μ h' w g args args' v h2 hc q1 H F (n - 1) hF).mono ?_⟩;rintro e w' ⟨v',bd,rfl,k1,k2⟩;exact hn bd v' w' k1 k2
    ·rename_i l args h' he;simp only[Option.bind_eq_some_iff,Option.some.injEq]at hr;obtain⟨⟨v,h2⟩,hc,rfl⟩:=hr;obtain⟨st,p,f0,ps,gS,body,hl,hlen⟩:=EA _ _ _ _ hc;have hh:h'=h:=by
      obtain⟨dst,op,type,pos,after,guard⟩:=o;cases op<;>simp only[dk]at he<;>first|cases he|skip
      all_goals simp only[Option.bind_eq_some_iff,Option.some.injEq,Prod.mk.injEq,aj,reduceCtorEq,false_and,and_false,exists_false]at he
      ·obtain⟨_,_,_,_,he⟩:=he;split at he
       ·split at he<;>simp at he
       ·cases he
      ·obtain⟨_,_,he⟩:=he;split at he
       ·first|(simp at he;done)|(obtain⟨_,_,he⟩:=he;simp at he;done)|(simp only[Option.bind_eq_some_iff]at he;obtain⟨_,_,he⟩:=he;cases he)
       ·try simp only[Option.bind_eq_some_iff]at he
        obtain⟨_,_,he⟩:=he;split at he
        ·simp at he
        ·simp only[Option.some.injEq,Prod.mk.injEq]at he;exact he.2.symm
        ·cases he
       ·cases he
     subst hh;obtain⟨m,args',lo,_,hb,hw,q1,q2,q3⟩:=tY (P:=P) hf H he hl hlen;rw[q2];refine⟨hF.ok n,(Ey μ h' w l args v h2 m f0 ps gS body st p lo.fn _ hc hl hb H (o8 q3 q1) F (n - 1) hF).mono ?_⟩;rintro e w' ⟨v',bd,rfl,k1,k2⟩;exact hn bd v' w' k1 k2
    ·cases hr
theorem tZ {ops:Array Oper} (hf:du μ f a.tmps) (o:Oper):Region.wanted o (yielded ops a.tmps)=wanted ops.toList o f:=by
 unfold Region.wanted wanted;cases hgd:o.guard with
 |none=>rfl
 |some jw=>
  obtain⟨j,want⟩:=jw;simp only
  unfold yielded;have e:ops.toList[j]? =ops[j]? :=by simp
  rw[e];cases ht:(ops[j]?).bind (·.dst)with
  |none=>simp
  |some t=>
   simp only[Option.bind_some];have hv:=hf.get t;by_cases bw:t<a.tmps.size
   ·have e2:a.tmps.getD t undef=a.tmps[t]:=by simp[bw]
    rw[e2]at hv;rw[Array.getElem?_eq_getElem bw];generalize a.tmps[t]=u at hv;generalize f.get t=c at hv;cases hv with
    |lit hh=>cases u<;>simp
    |Eg hh=>rcases hh with rfl |⟨_,_,rfl⟩<;>rfl
    |_=>rfl
   ·have e2:a.tmps.getD t undef=undef:=by simp[bw]
    rw[e2]at hv;have e3:a.tmps[t]? =none:=Array.getElem?_eq_none (Nat.le_of_not_lt bw);rw[e3];generalize f.get t=c at hv;unfold undef at hv;cases hv with
    |lit hh=>simp[ay]at hh
    |Eg hh=>rcases hh with hh|⟨_,_,hh⟩<;>cases hh
    |tuple _ _=>rfl
theorem EB (hE:bK P E) (B0:kA P E base B cf) (Ey:o6 P E base B rf) (Ez:o7 E cf) (EA:lN rf) {F:Fence} (hF:iH F) {n:Nat} {ops:Array Oper} {Q:Exit→Act→World→Prop}:∀(rest:List Oper) (k:Nat) (μ:bD) (f:AF) (h:ah) (a:Act) (w:World) (f':AF) (h':ah),
 (∀j,rest[j]? =ops[k+j]?)→kN E base cf rf ops.toList rest f h=some (f',h')→du μ f a.tmps→bB E base B μ h w→
 (∀bd a' w',du bd f' a'.tmps→a'.defers=a.defers→Step E base B μ h w bd h' w'→Q .normal a' w')→wpOpsIn F n P ops Q (List.range' k rest.length) a w
 |[],k,μ,f,h,a,w,f',h',_,ha,hf,H,hQ=>by
  simp only[kN,Option.some.injEq,Prod.mk.injEq]at ha;obtain⟨rfl,rfl⟩:=ha;exact hQ μ a w hf rfl (.refl H)
 |o::rest,k,μ,f,h,a,w,f',h',hk,ha,hf,H,hQ=>by
  have h0:ops[k]? =some o:=by simpa using(hk 0).symm
  have r7:∀j,rest[j]? =ops[k+1+j]? :=fun j=>by have:=hk (j+1);simpa[Nat.add_assoc,Nat.add_comm 1 j]using this
  simp only[List.length_cons,List.range'_succ,wpOpsIn,h0,tZ hf];simp only[kN]at ha;split at ha
  ·rename_i hw;rw[if_pos hw];simp only[Option.bind_eq_some_iff]at ha;obtain⟨r,hr,ha⟩:=ha;refine ZH hE B0 Ey Ez EA hF hf H hr fun bd v' w' q1 q2=>?_;refine EB hE B0 Ey Ez EA hF rest (k+1) bd (f.put o.dst r.v) r.h _ w' f' h' r7 ha ((hf.mono q2.le).put q1 o.dst) q2.rel fun xF a2 w2 p1 p2 p3=>?_;exact hQ xF a2 w2 p1 (by rw[p2];cases o.dst<;>rfl) (q2.trans p3)
  ·rename_i hw;rw[if_neg (by rw[hw];simp)];refine⟨fun _ _=>hF.fn _,?_⟩;refine EB hE B0 Ey Ez EA hF rest (k+1) μ (f.put o.dst undef) h _ w f' h' r7 ha (hf.put (.undef μ) o.dst) H fun xF a2 w2 p1 p2 p3=>?_;exact hQ xF a2 w2 p1 (by rw[p2];cases o.dst<;>rfl) p3
end
def qq:Ex→Exit
 | .normal=>.normal
 | .exit id=>.exit id
 | .ret=>.ret
structure wx (W0:Nat) (μ:bD) (w:World) (d:Deferred) (r:Nat):Prop where
 tg:d.target= .collected r
 obj:w.heap[r]? =some (.deferred (some []))
 apart:∀b m,μ b=some m→m.r≠r
 new:W0≤r
inductive cd (W0:Nat) (μ:bD) (w:World):List Deferred→List Nat→Prop
 |nil:cd W0 μ w [] []
 |cons {d:Deferred} {r:Nat} {ds:List Deferred} {rs:List Nat} (h:wx W0 μ w d r) (hn:r∉rs) (t:cd W0 μ w ds rs):cd W0 μ w (d::ds) (r::rs)
section
variable {P:Program} {E:Env} {base B:Nat}
theorem wx.step {W0:Nat} {μ bd:bD} {h h':ah} {w w':World} {d:Deferred} {r:Nat} (k:wx W0 μ w d r) (s:Step E base B μ h w bd h' w'):wx W0 bd w' d r:=by
 have bw:r<w.heap.size:=(Array.getElem?_eq_some_iff.1 k.obj).1;refine⟨k.tg,?_,?_,k.new⟩
 ·rw[s.grow.bx r bw (fun b m hb hr=>absurd hr (k.apart b m hb))];exact k.obj
 ·intro b m hb hr;cases h0:μ b with
  |some m0=>
   have:=s.le b m0 h0;rw[hb]at this;cases this;exact k.apart b m h0 hr
  |none=>
   obtain⟨_,_,h3⟩:=s.new b m h0 hb;rcases h3 with h3|⟨b0,m0,_,h4,h5⟩
   ·omega
   ·exact k.apart b0 m0 h4 (h5.trans hr)
theorem cd.step {W0:Nat} {μ bd:bD} {h h':ah} {w w':World} {ds:List Deferred} {rs:List Nat} (k:cd W0 μ w ds rs) (s:Step E base B μ h w bd h' w'):cd W0 bd w' ds rs:=by
 induction k with
 |nil=>exact .nil
 |cons h hn _ ih=>exact .cons (h.step s) hn ih
theorem bB.apart {μ:bD} {h:ah} {w w':World} (H:bB E base B μ h w) {r:Nat} {o:Obj} (hu:Ej w r o w') (ha:∀b m,μ b=some m→m.r≠r):bB E base B μ h w':=
 ⟨H.g8,H.high,fun b m hb=>by
  obtain⟨p,p',k1,k2,k3⟩:=H.obj b m hb;exact⟨p,p',k1,by rw[hu.get,if_neg (ha b m hb)];exact k2,k3⟩,H.own,H.alias,H.dQ,H.dN,by rw[hu.size];exact H.low,H.mF,H.wf,H.root⟩
theorem Step.apart {μ bd:bD} {h h':ah} {w w1 w2:World} (s:Step E base B μ h w bd h' w1) {r:Nat} {o:Obj} (hu:Ej w1 r o w2) (ha:∀b m,bd b=some m→m.r≠r) (hn:w.heap.size≤r):Step E base B μ h w bd h' w2:=
 ⟨s.rel.apart hu ha,⟨hu.tape.trans s.grow.tape,hu.os.trans s.grow.os,hu.output.trans s.grow.output,by rw[hu.size];exact s.grow.size,fun k hk hh=>by rw[hu.get,if_neg om];exact s.grow.bx k hk hh⟩,s.le,s.new,s.L3,s.fq⟩
theorem bB.alc {μ:bD} {h:ah} {w w':World} (H:bB E base B μ h w) {o:Obj} (ha:GI w o w'):bB E base B μ h w':=
 ⟨H.g8,H.high,fun b m hb=>by
  obtain⟨p,p',k1,k2,k3⟩:=H.obj b m hb;have:=H.lt hb;exact⟨p,p',k1,by rw[ha.get,if_neg om];exact k2,k3⟩,H.own,H.alias,H.dQ,H.dN,by rw[ha.size];have:=H.low;omega,H.mF,H.wf,H.root⟩
theorem Step.adT {μ:bD} {h:ah} {w w':World} (H:bB E base B μ h w) {o:Obj} (ha:GI w o w'):Step E base B μ h w μ h w':=
 ⟨H.alc ha,⟨ha.tape,ha.os,ha.output,by rw[ha.size];omega,fun r hr _=>by rw[ha.get,if_neg om]⟩,μ.le_refl,fun b m h0 h1=>by simp[h0]at h1,fun _ _ _=>rfl,Nat.le_refl _⟩
theorem xK (hE:bK P E) {μ:bD} {f:AF} {h:ah} {w:World} {tmps:Array Value} {fn:Func} {vs:List Value} (hf:du μ f tmps) (H:bB E base B μ h w) (hr:cY E h f fn.results.toList=some vs):
 ∃v',(results fn tmps).run P w= .ok v' w∧aq μ (ct vs) v':=by
 have key:∀(l:List ResultVar) (vs:List Value),cY E h f l=some vs→∃oW,ax μ vs oW∧(l.mapM (m:=Sem) fun
  | .tmp t=>pure (tmps.getD t undef)
  | .cell a t=>do loadVar t (←asAddr (tmps.getD a undef))).run P w= .ok oW w:=by
  intro l
  induction l with
  |nil=>intro vs hv;simp only[cY,Option.some.injEq]at hv;subst hv;exact⟨[],.nil,by simp⟩
  |cons x l ih=>
   intro vs hv;cases x with
   |tmp t=>
    simp only[cY,Option.bind_eq_some_iff,Option.some.injEq]at hv;obtain⟨vs1,h1,rfl⟩:=hv;obtain⟨oW,r1,r2⟩:=ih vs1 h1;exact⟨tmps.getD t undef::oW,.cons (hf.get t) r1,by simp only[List.mapM_cons,Sem.run_bind,Sem.run_pure,Result.andThen_ok,r2]⟩
   |cell a t=>
    simp only[cY,Option.bind_eq_some_iff,Option.some.injEq]at hv;obtain⟨p,h1,⟨ag,n⟩,h2,c,h3,v,h4,vs1,h5,rfl⟩:=hv;have ha:=hf.get a;rw[lE h1]at ha;obtain⟨m,hb,ex⟩:=ha.kP;obtain⟨l',r1,r2⟩:=H.CG hb h3;obtain⟨v',q1,q2⟩:=jY h4 r1;have hl:l'.length=n:=by rw[←r1.length];exact(H.ai hb h3).1
    obtain⟨oW,s1,s2⟩:=ih vs1 h5;refine⟨v'::oW,.cons q2 s1,?_⟩;have lv:=qn (P:=P) hE h2 hl r2 q1;have ah1:(asAddr (tmps.getD a undef)).run P w= .ok ⟨m.r,m.s+p.2,none⟩ w:=by rw[ex];rfl
    rw[List.mapM_cons];simp only[Sem.run_bind,ah1,Sem.run_pure,Result.andThen_ok,lv];rw[s2];rfl
 obtain⟨oW,r1,r2⟩:=key _ _ hr
 have hm:(fn.results.mapM (m:=Sem) fun
  | .tmp t=>pure (tmps.getD t undef)
  | .cell a t=>do loadVar t (←asAddr (tmps.getD a undef))).run P w= .ok oW.toArray w:=by
  rw[Array.mapM_eq_mapM_toList];simp only[Sem.run_map,r2,Result.andThen_ok]
 have JW:(results fn tmps).run P w= .ok (if h:oW.toArray.size=1 then oW.toArray[0]else .tuple oW.toArray) w:=by
  show Sem.run P (do
   let us ←fn.results.mapM (m:=Sem) fun
    | .tmp t=>pure (tmps.getD t undef)
    | .cell a t=>do loadVar t (←asAddr (tmps.getD a undef))
   pure (if h:us.size=1 then us[0]else .tuple us)) w=_
  rw[Sem.run_bind,hm];rfl
 refine⟨_,JW,?_⟩;cases r1 with
 |nil=>exact .dS (by simpa using ax.nil)
 |cons hv ht=>cases ht with
  |nil=>simpa[ct]using hv
  |cons QX ht=>simp only[ct];exact .dS (by simpa using ax.cons hv (.cons QX ht))
theorem o9 {F:Fence} {n:Nat} {fn:Func} {tmps:Array Value} {R:Ending→World→Prop} {j4 μ:bD} {h0 h:ah} {w0:World}:∀(ds:List Deferred) (rs:List Nat) (w:World),cd w0.heap.size μ w ds rs→Step E base B j4 h0 w0 μ h w→
 (∀w',Step E base B j4 h0 w0 μ h w'→∃v,(results fn tmps).run P w'= .ok v w'∧R (.returned v) w')→LeavesInM F n P fn tmps R ds .returning w
 |[],_,w,_,s,hR=>hR w s
 |d::ds,_,w,.cons (r:=r) (rs:=rs) hk hn ht,s,hR=>by
  refine⟨by simp,.inl ⟨r,{w with heap:=w.heap.setIfInBounds r (.deferred none)},hk.tg,?_,?_⟩⟩
  ·unfold Instr.takeDeferred;simp only[Sem.run_bind,run_getObj_map (P:=P) hk.obj (fun _ _ _=>by simp),Result.andThen_ok,cJ (P:=P) hk.obj (fun _ _ _=>by simp),Sem.run_pure]
  ·have bw:r<w.heap.size:=(Array.getElem?_eq_some_iff.1 hk.obj).1;have hu:=Ej.set w r (.deferred none) bw;refine o9 ds rs _ ?_ (s.apart hu hk.apart hk.new) hR;have:∀{ds:List Deferred} {rs:List Nat},cd w0.heap.size μ w ds rs→r∉rs→cd w0.heap.size μ {w with heap:=w.heap.setIfInBounds r (.deferred none)} ds rs:=by
    intro ds rs k
    induction k with
    |nil=>intro _;exact .nil
    |cons h1 h2 _ ih=>
     intro NW;simp only[List.mem_cons,not_or]at NW;exact .cons ⟨h1.tg,by rw[hu.get,if_neg (fun e=>NW.1 e.symm)];exact h1.obj,h1.apart,h1.new⟩ h2 (ih NW.2)
   exact this ht hn
def ED (P:Program) (E:Env) (base B:Nat):Prop:=
 ∀(cf:fk) (rf:eD),kA P E base B cf→o6 P E base B rf→o7 E cf→lN rf→∀(ops:Array Oper) (f:AF) (h:ah) (f':AF) (h':ah) (wy:List eK),
  n9 ops.toList=true→ky f.n ops.toList=true→kE E base cf rf ops.toList ops.toList f h=some (f',h',wy)→mz (dC ops.toList []) 0 wy=true→
  ∀(μ:bD) (a:Act) (w:World),du μ f a.tmps→bB E base B μ h w→∀(F:Fence) (n id:Nat) (Q:Exit→Act→World→Prop),iH F→
  (∀bd a' w',du bd f' a'.tmps→a'.defers=a.defers→Step E base B μ h w bd h' w'→Q .normal a' w')→(Code.region id ops true).wpIn F n P Q a w
def JX (P:Program) (E:Env) (base B k:Nat):Prop:=
 ∀(c:Code) (f:AF) (h:ah) (ex:Ex) (f':AF) (h':ah),aN E base k c f h=some (ex,f',h')→
  ∀(μ:bD) (a:Act) (w:World) (W0:Nat) (rs:List Nat),du μ f a.tmps→bB E base B μ h w→cd W0 μ w a.defers rs→W0≤w.heap.size→
  ∀(F:Fence) (n:Nat) (Q:Exit→Act→World→Prop),iH F→(F.round=none∨aZ c=true)→
  (∀bd a' w' GW,du bd f' a'.tmps→cd W0 bd w' a'.defers GW→Step E base B μ h w bd h' w'→Q (qq ex) a' w')→c.wpIn F n P Q a w
theorem zW {μ:bD}:∀{args args':List Value} {i:Nat} {f:AF} {tmps:Array Value},ax μ args args'→du μ f tmps→du μ (AF.qa args i f) ((args'.zipIdx i).foldl (fun t p=>t.setIfInBounds p.2 p.1) tmps)
 |_,_,i,f,tmps,.nil,hf=>by simpa[AF.qa]using hf
 |_,_,i,f,tmps,.cons hv ht,hf=>by
  simp only[AF.qa,List.zipIdx_cons,List.foldl_cons];exact zW ht (hf.set hv i)
theorem CL {μ:bD} {args:List Value} {args':Array Value} {n:Nat} (hr:ax μ args args'.toList) (hn:args.length≤n):du μ (AF.enter args n) (args'++Array.replicate (n - args'.size) undef):=by
 have hl:args.length=args'.size:=by simpa using hr.length
 have h0:du μ ⟨.nil,n⟩ (Array.replicate n undef):=by
  refine⟨by simp,fun t=>?_⟩;have:(AF.get ⟨.nil,n⟩ t)=undef:=rfl;rw[this];by_cases h:t<n<;>simp[h]<;>exact .undef μ
 have:=zW (i:=0) hr h0;have e:((args'.toList.zipIdx 0).foldl (fun t p=>t.setIfInBounds p.2 p.1) (Array.replicate n undef))=args'++Array.replicate (n - args'.size) undef:=by
  have zf:=Eo args'.toList 0 0 (Array.replicate n undef) (by simp;omega);simp only[Nat.zero_add]at zf;apply Array.ext
  ·rw[zf.1];simp;omega
  ·intro i h1 h2;have:=zf.2 i;rw[Array.getElem?_eq_getElem h1]at this;rw[←Option.some.injEq,this];by_cases hi:i<args'.size
   ·rw[if_pos (by simp;exact hi)];simp[hi]
   ·rw[if_neg (by simp;omega)];have Gv:i<n:=by
     rw[zf.1]at h1;simpa using h1
    simp[hi,Gv,Array.getElem_append]
 rw[←e];exact this
theorem EE (run:BV):o7 E (eE E base run):=by
 intro g args h r hr;unfold eE at hr;simp only[Option.bind_eq_some_iff]at hr;obtain⟨fn,h1,_⟩:=hr;simp[h1]
theorem GX (run:BV):lN (dK base run):=by
 intro l args h r hr;unfold dK at hr;simp only[aj]at hr;obtain⟨_,hr⟩:=hr;split at hr
 ·rename_i p f ps gS body hg;simp only[aj,Bool.and_eq_true,beq_iff]at hr;exact⟨_,_,_,_,_,_,hg,hr.1.1.1⟩
 ·cases hr
def kf (P:Program) (E:Env) (base B:Nat):Prop:=kA P E base B (E.v9 base)
theorem QY (hE:bK P E) (hO:kf P E base B) {k:Nat} (hk:JX P E base B k):kA P E base B (eE E base (aN E base k)):=by
 intro μ h w g args args' v h' hc hr H F n hF;unfold eE at hc;simp only[Option.bind_eq_some_iff]at hc;obtain⟨fn,h1,hc⟩:=hc;split at hc
 ·rename_i r ho;simp only[Option.some.injEq]at hc;subst hc;exact hO μ h w g args args' v h' ho hr H F n hF
 ·simp only[Option.bind_eq_some_iff,aj,aL]at hc;obtain⟨c,h2,hn,hc⟩:=hc;obtain⟨f1,f2,f3⟩:=hE.func _ _ h1
  have body:∀ex f1' BO,aN E base k c (AF.enter args fn.ntmps) h=some (ex,f1',BO)→(qq ex= .normal∨qq ex= .ret)→(cY E BO f1' fn.results.toList).bind (fun vs=>some (ct vs,BO))=some (v,h')→
   CallsIn F.plain n P g args' w (o5 E base B μ h w v h'):=by
   intro ex fe he ia hex JW;simp only[Option.bind_eq_some_iff,Option.some.injEq,Prod.mk.injEq]at JW;obtain⟨vs,h3,rfl,rfl⟩:=JW;refine callsIn_of_wp_marks f1 h2 (hF.fn _) ?_ rfl;refine hk c _ h ex fe he ia μ _ w w.heap.size [] (CL hr hn) H .nil (Nat.le_refl _) F.plain n _ hF.plain (.inl rfl) ?_;intro bd a' w' GW q1 q2 q3
   have lv:LeavesInM F.plain n P fn a'.tmps (o5 E base B μ h w (ct vs) he) a'.defers .returning w':=
    o9 a'.defers GW w' q2 q3 fun w2 s2=>by
     obtain⟨v',p1,p2⟩:=xK (P:=P) hE q1 s2.rel h3;exact⟨v',p1,v',bd,rfl,p2,s2⟩
   rcases hex with e|e<;>rw[e]<;>exact lv
  have fin:CallsIn F.plain n P g args' w (o5 E base B μ h w v h'):=by
   split at hc
   ·rename_i fe he ia;exact body _ _ _ ia (.inl rfl) hc
   ·rename_i fe he ia;exact body _ _ _ ia (.inr rfl) hc
   ·cases hc
  exact fin
end
section
variable {P:Program} {E:Env} {base B:Nat}
theorem run_getLoop {w:World} {r:Nat} {lo:Loop} (h:w.heap[r]? =some (.loop lo)):(Instr.getLoop r).run P w= .ok lo w:=by
 unfold Instr.getLoop;simp only[Sem.run_bind,run_getObj_map (P:=P) h (fun _ _ _=>by simp),Result.andThen_ok,Sem.run_pure]
theorem og {μ:bD} {h:ah} {w:World} (H:bB E base B μ h w) {l:Nat} {m:MT} (hb:μ l=some m) (bG:base≤l) {st:LoopState} {p:Option Code} {f0:AF} {ps:List Tmp} {gS body:Code} (hg:h.get l=some (.loop st p f0 ps gS body)) (Md:LoopState) (p':Option Code):
 ∃lo:Loop,w.heap[m.r]? =some (.loop lo)∧lo.state=st∧lo.pending=p∧Step E base B μ h w μ (h.put l (.loop Md p' f0 ps gS body)) {w with heap:=w.heap.setIfInBounds m.r (.loop {lo with state:=Md,pending:=p'})}:=by
 obtain⟨o1,o2,k1,k2,k3⟩:=H.obj l m hb;rw[hg]at k1;cases k1;cases k3 with
 |loop hf=>
  refine⟨_,k2,rfl,rfl,?_⟩;exact Step.put H hb bG hg rfl rfl (Ej.set w m.r _ (H.lt hb)) (.loop hf)
theorem VB {k:Nat} (hk:JX P E base B k):o6 P E base B (dK base (aN E base k)):=by
 intro μ h w l args v h' m f0 ps gS body st p fn tmps hr hl hb H hf F n hF;unfold dK at hr;simp only[aj,aL]at hr;obtain⟨bG,hr⟩:=hr;rw[hl]at hr;cases st with
 |ready=>
  simp only[aj,Bool.and_eq_true,beq_iff]at hr;obtain⟨⟨⟨hlen,CM⟩,nk⟩,hr⟩:=hr;split at hr
  ·rename_i f1 h1 ah2;split at hr
   ·rename_i p1 f01 g6 sV kF JC;simp only[Option.bind_eq_some_iff]at hr;obtain⟨⟨ex,f2,h2⟩,adU,hr⟩:=hr;simp only at hr;split at hr
    ·rename_i st2 p2 f02 zX ZI QZ Mc;refine roundIn_of_wpIn (hF.fn _) ?_;refine hk gS _ h .normal f1 h1 ah2 μ _ w w.heap.size [] hf H .nil (Nat.le_refl _) (F.inRound m.r) n _ (hF.inRound _) (.inr CM) ?_;intro gz a1 w1 u6 q1 q2 s1;have rW:=s1.le _ _ hb;obtain⟨lo1,e1,e2,e3,s2⟩:=og s1.rel rW bG JC .busy p1;have ZJ:Step E base B gz h1 w1 gz (h1.put l (.loop .busy p1 f01 g6 sV kF)) {w1 with heap:=w1.heap.setIfInBounds m.r (.loop {lo1 with state:=.busy})}:=by
      rw[←e3]at s2 ⊢;exact s2
     refine⟨{w1 with heap:=w1.heap.setIfInBounds m.r (.loop {lo1 with state:=.busy})},?_,?_⟩
     ·unfold Instr.beginRound;simp only[Sem.run_bind,run_getLoop (P:=P) e1,Result.andThen_ok,cJ (P:=P) e1 (fun _ _ _=>by simp),e2,Sem.run_pure]
     refine hk body f1 _ ex f2 h2 adU gz a1 _ w.heap.size u6 q1 ZJ.rel (q2.step ZJ) (by rw[Array.size_setIfInBounds];exact s1.grow.size) (F.inRound m.r) n _ (hF.inRound _) (.inr nk) ?_;intro yN a3 w3 rs3 q3 q4 s3;have pa:=(s1.trans ZJ);have Me:=s3.le _ _ rW;have key:∀(Md:LoopState) (jump:Option Code),(jump.isNone=true→Md= .ready)→(jump.isNone=false→Md= .done)→∃w4,(Instr.endRound m.r jump).run P w3= .ok (.bool jump.isNone) w4∧Step E base B yN h2 w3 yN (h2.put l (.loop Md jump f02 zX ZI QZ)) w4:=by
      intro Md jump hj1 Yz;obtain⟨VD,d1,d2,d3,s4⟩:=og s3.rel Me bG Mc Md jump;refine⟨_,?_,s4⟩;unfold Instr.endRound;simp only[Sem.run_bind,run_getLoop (P:=P) d1,Result.andThen_ok,cJ (P:=P) d1 (fun _ _ _=>by simp),Sem.run_pure];cases hj:jump.isNone with
      |true=>rw[hj1 hj];simp
      |false=>rw[Yz hj];simp
     cases ex with
     |normal=>
      simp only[Option.some.injEq,Prod.mk.injEq]at hr;obtain⟨rfl,rfl⟩:=hr;obtain⟨w4,k1,k2⟩:=key .ready none (fun _=>rfl) (fun h=>by simp at h);exact⟨_,w4,k1,_,yN,rfl,.bool _ _,(pa.trans s3).trans k2⟩
     |ret=>
      simp only[Option.some.injEq,Prod.mk.injEq]at hr;obtain⟨rfl,rfl⟩:=hr;obtain⟨w4,k1,k2⟩:=key .done (some .ret) (fun h=>by simp at h) (fun _=>rfl);exact⟨_,w4,k1,_,yN,rfl,.bool _ _,(pa.trans s3).trans k2⟩
     |exit id=>
      simp only[Option.some.injEq,Prod.mk.injEq]at hr;obtain⟨rfl,rfl⟩:=hr;obtain⟨w4,k1,k2⟩:=key .done (some (.exit id)) (fun h=>by simp at h) (fun _=>rfl);exact⟨_,w4,k1,_,yN,rfl,.bool _ _,(pa.trans s3).trans k2⟩
    ·cases hr
   ·cases hr
  ·cases hr
 |busy=>cases hr
 |done=>cases hr
 |exhausted=>cases hr
theorem codeOk (hE:bK P E) (hO:kf P E base B) (hD:ED P E base B):∀k,JX P E base B k∧
 (∀(b:Code) (f:AF) (h:ah) (ex:Ex) (f':AF) (h':ah),aN E base k (.loop b) f h=some (ex,f',h')→
  ∀(μ:bD) (a:Act) (w:World) (W0:Nat) (rs:List Nat),du μ f a.tmps→bB E base B μ h w→cd W0 μ w a.defers rs→W0≤w.heap.size→
  ∀(F:Fence) (n:Nat) (Q:Exit→Act→World→Prop),iH F→(F.round=none∨aZ b=true)→
  (∀bd a' w' GW,du bd f' a'.tmps→cd W0 bd w' a'.defers GW→Step E base B μ h w bd h' w'→Q (qq ex) a' w')→Code.roundsIn F n P b Q k a w):=by
 intro k
 induction k with
 |zero=>exact⟨fun c f h ex f' h' hr=>by simp[aN]at hr,fun b f h ex f' h' hr=>by simp[aN]at hr⟩
 |succ k ih=>
  obtain⟨hk,Q0⟩:=ih;have u7:=QY hE hO hk;have EF:=VB hk
  have GY:∀(b:Code) (f:AF) (h:ah) (ex:Ex) (f':AF) (h':ah),aN E base (k+1) (.loop b) f h=some (ex,f',h')→
   ∀(μ:bD) (a:Act) (w:World) (W0:Nat) (rs:List Nat),du μ f a.tmps→bB E base B μ h w→cd W0 μ w a.defers rs→W0≤w.heap.size→
   ∀(F:Fence) (n:Nat) (Q:Exit→Act→World→Prop),iH F→(F.round=none∨aZ b=true)→
   (∀bd a' w' GW,du bd f' a'.tmps→cd W0 bd w' a'.defers GW→Step E base B μ h w bd h' w'→Q (qq ex) a' w')→Code.roundsIn F n P b Q (k+1) a w:=by
   intro b f h ex f' h' hr μ a w W0 rs hf H hm hW F n Q hF zY hQ;simp only[aN]at hr;rw[roundsIn_succ];split at hr
   ·rename_i f1 h1 hb;refine hk b f h .normal f1 h1 hb μ a w W0 rs hf H hm hW F n _ hF zY fun gz a1 w1 u6 q1 q2 s1=>?_;exact Q0 b f1 h1 ex f' h' hr gz a1 w1 W0 u6 q1 s1.rel q2 (Nat.le_trans hW s1.grow.size) F n Q hF zY fun xF a2 w2 ZK p1 p2 s2=>hQ xF a2 w2 ZK p1 p2 (s1.trans s2)
   ·rename_i ZL;refine hk b f h ex f' h' hr μ a w W0 rs hf H hm hW F n _ hF zY fun gz a1 w1 u6 q1 q2 s1=>?_;have:=hQ gz a1 w1 u6 q1 q2 s1;cases ex with
    |normal=>exact(ZL _ _ hr).elim
    |exit id=>exact this
    |ret=>exact this
  refine⟨?_,GY⟩;intro c f h ex f' h' hr μ a w W0 rs hf H hm hW F n Q hF zY hQ;cases c with
  |skip=>
   simp only[aN,Option.some.injEq,Prod.mk.injEq]at hr;obtain⟨rfl,rfl,rfl⟩:=hr;exact wpIn_skip (hQ μ a w rs hf hm (.refl H))
  |exit id=>
   simp only[aN,Option.some.injEq,Prod.mk.injEq]at hr;obtain⟨rfl,rfl,rfl⟩:=hr;exact wpIn_exit (hQ μ a w rs hf hm (.refl H))
  |ret=>
   simp only[aN,Option.some.injEq,Prod.mk.injEq]at hr;obtain⟨rfl,rfl,rfl⟩:=hr;exact wpIn_ret (hQ μ a w rs hf hm (.refl H))
  |seq x y=>
   simp only[aN]at hr;have hx:F.round=none∨aZ x=true:=zY.imp id fun h=>by simp[aZ]at h;exact h.1
   have hy:F.round=none∨aZ y=true:=zY.imp id fun h=>by simp[aZ]at h;exact h.2
   refine wpIn_seq ?_;split at hr
   ·rename_i f1 h1 hb;refine hk x f h .normal f1 h1 hb μ a w W0 rs hf H hm hW F n _ hF hx fun gz a1 w1 u6 q1 q2 s1=>?_;exact hk y f1 h1 ex f' h' hr gz a1 w1 W0 u6 q1 s1.rel q2 (Nat.le_trans hW s1.grow.size) F n Q hF hy fun xF a2 w2 ZK p1 p2 s2=>hQ xF a2 w2 ZK p1 p2 (s1.trans s2)
   ·rename_i ZL;refine hk x f h ex f' h' hr μ a w W0 rs hf H hm hW F n _ hF hx fun gz a1 w1 u6 q1 q2 s1=>?_;have:=hQ gz a1 w1 u6 q1 q2 s1;cases ex with
    |normal=>exact(ZL _ _ hr).elim
    |exit id=>exact this
    |ret=>exact this
  |cond cx x y=>
   simp only[aN,Option.bind_eq_some_iff]at hr;obtain⟨v,h1,b,h2,h3⟩:=hr;have e:=zP h2;subst e;have hc:=(bq H.dN hf h1).ar rfl;have hx:F.round=none∨aZ x=true:=zY.imp id fun h=>by simp[aZ]at h;exact h.1
   have hy:F.round=none∨aZ y=true:=zY.imp id fun h=>by simp[aZ]at h;exact h.2
   cases b with
   |true=>exact wpIn_cond_true hc (hk x f h ex f' h' h3 μ a w W0 rs hf H hm hW F n Q hF hx hQ)
   |false=>exact wpIn_cond_false hc (hk y f h ex f' h' h3 μ a w W0 rs hf H hm hW F n Q hF hy hQ)
  |block id b=>
   simp only[aN]at hr;have cA:F.round=none∨aZ b=true:=zY.imp (fun h=>h) fun h=>by simpa[aZ]using h
   refine wpIn_block ?_;split at hr
   ·rename_i nU f1 h1 hb;refine hk b f h (.exit nU) f1 h1 hb μ a w W0 rs hf H hm hW F n _ hF cA fun gz a1 w1 u6 q1 q2 s1=>?_;rw[cu]at hr;show(if nU=id then Q .normal a1 w1 else Q (.exit nU) a1 w1);by_cases e:nU=id
    ·rw[if_pos (beq_iff.2 e)]at hr;simp only[Option.some.injEq,Prod.mk.injEq]at hr;obtain⟨rfl,rfl,rfl⟩:=hr;rw[if_pos e];exact hQ gz a1 w1 u6 q1 q2 s1
    ·rw[if_neg (fun hh=>e (beq_iff.1 hh))]at hr;simp only[Option.some.injEq,Prod.mk.injEq]at hr;obtain⟨rfl,rfl,rfl⟩:=hr;rw[if_neg e];exact hQ gz a1 w1 u6 q1 q2 s1
   ·rename_i ZL;refine hk b f h ex f' h' hr μ a w W0 rs hf H hm hW F n _ hF cA fun gz a1 w1 u6 q1 q2 s1=>?_;have:=hQ gz a1 w1 u6 q1 q2 s1;cases ex with
    |normal=>exact this
    |exit nU=>exact(ZL _ _ _ hr).elim
    |ret=>exact this
  |loop b=>
   exact wpIn_loop_rounds (k+1) (GY b f h ex f' h' hr μ a w W0 rs hf H hm hW F n Q hF (zY.imp id fun h=>by simpa[aZ]using h) hQ)
  |region id ops draw=>
   simp only[aN,kO]at hr;cases draw with
   |false=>
    simp only[Option.bind_eq_some_iff,Option.some.injEq,Prod.mk.injEq]at hr;obtain⟨⟨f1,h1⟩,hb,rfl,rfl,rfl⟩:=hr;refine wpIn_region ?_;have:=EB hE u7 EF (EE _) (GX _) hF (n:=n) (ops:=ops) (Q:=Q) ops.toList 0 μ f h a w f1 h1 (fun j=>by simp) hb hf H fun gz a1 w1 q1 q2 s1=>hQ gz a1 w1 rs q1 (by rw[q2];exact hm.step s1) s1;rw[List.range_eq_range',←Array.length_toList];exact this
   |true=>
    simp only[aj,Bool.and_eq_true,Option.bind_eq_some_iff,Option.some.injEq,Prod.mk.injEq]at hr;obtain⟨⟨hs,hd⟩,⟨f1,h1,wy⟩,hb,hp,rfl,rfl,rfl⟩:=hr;exact hD _ _ u7 EF (EE _) (GX _) ops f h f1 h1 wy hs hd hb hp μ a w hf H F n id Q hF fun gz a1 w1 q1 q2 s1=>hQ gz a1 w1 rs q1 (by rw[q2];exact hm.step s1) s1
  |rangeFunc g ps gS body=>
   have B2:F.round=none:=zY.resolve_right (by simp[aZ]);simp only[aN,Option.bind_eq_some_iff,aj,aL]at hr;obtain⟨gv,h1,bG,hr⟩:=hr;split at hr
   ·rename_i gid first captured
    simp only[Option.bind_eq_some_iff]at hr;obtain⟨⟨rv,h2⟩,hc,hr⟩:=hr;simp only at hr;have BQ:=bq H.dN hf h1;generalize hq:a.eval g=q at BQ;cases BQ with
    |lit hh=>simp[ay]at hh
    |func t1 t2 t3 t4=>
     rename_i tX jJ;refine wpIn_rangeFunc fun fn _=>?_
     let wA:World:={w with heap:=w.heap.push (.deferred (some []))}
     let lo:Loop:={state:=.ready,pending:=none,fn:=fn,tmps:=a.tmps,params:=ps,assign:=gS,body:=body,defers:=w.heap.size}
     let wB:World:={wA with heap:=wA.heap.push (.loop lo)}
     have sA:Step E base B μ h w μ h wA:=Step.adT H (GI.mk' w _);have ah6:wA.heap.size=w.heap.size+1:=by simp[wA]
     have sB:=Step.alloc (o:=.loop .ready none f ps.toList gS body) sA.rel (GI.mk' wA (.loop lo)) 0 (fun _ _ _ _ hh=>by cases hh) (by
      have:=jA.loop (μ:=lr μ h.size ⟨wA.heap.size,0,0⟩) (h:=h.push (.loop .ready none f ps.toList gS body)) (base:=base) (b:=h.size) (m:=⟨wA.heap.size,0,0⟩) (st:=.ready) (p:=none) (ps:=ps.toList) (gS:=gS) (body:=body) (fn:=fn) (d:=w.heap.size) (hf.mono (g9 H.fresh));simpa using this)
     let mk:Deferred:={target:=.collected w.heap.size,args:= #[]}
     have hmk:wx W0 μ wA mk w.heap.size:=⟨rfl,by simp[wA],fun b m hb he=>by have:=H.lt hb;omega,hW⟩;have NW:w.heap.size∉rs:=by
      have:∀{ds:List Deferred} {rs:List Nat},cd W0 μ w ds rs→∀r∈rs,r<w.heap.size:=by
       intro ds rs k
       induction k with
       |nil=>intro r hr;simp at hr
       |cons h1 _ _ ih=>intro r hr;rcases List.mem_cons.1 hr with rfl |hr
                        ·exact(Array.getElem?_eq_some_iff.1 h1.obj).1
                        ·exact ih r hr
      intro zZ;have:=this hm _ zZ;omega
     have hmarks:cd W0 μ wA (mk::a.defers) (w.heap.size::rs):=.cons hmk NW (hm.step sA)
     let args':Array Value:=tX++ #[.func (.yield wA.heap.size) #[] #[]]++jJ
     have zU:=EE (E:=E) _ _ _ _ _ hc;obtain⟨fnr,ZM⟩:=Option.isSome_iff_exists.1 zU;obtain⟨g1,g2,g3⟩:=hE.func _ _ ZM;have hbn:fnr.body.isNone=false:=by cases hx:fnr.body<;>simp_all
     have kH:ax (lr μ h.size ⟨wA.heap.size,0,0⟩) (first.toList++[.func (.yield h.size) #[] #[]]++captured.toList) args'.toList:=by
      have hle:μ.le (lr μ h.size ⟨wA.heap.size,0,0⟩):=g9 H.fresh;have v1:=(ax.oU t1 t2).mono hle;have v3:=(ax.oU t3 t4).mono hle;have v2:=ax.cons (aq.yield (bY μ h.size ⟨wA.heap.size,0,0⟩)) .nil;simpa[args']using(v1.append v2).append v3
     refine⟨wA.heap.size,[mk],wB,{target:=.fn (.func gid) jJ,args:=tX++ #[.func (.yield wA.heap.size) #[] #[]]},wB,gid,args',wB,?_,?_,fun _ _=>hF.fn _,?_,hF.ok n,?_⟩
     ·rw[B2];unfold Instr.enterLoop;simp only[Sem.run_bind,run_newObj,Result.andThen_ok,Sem.run_pure];rfl
     ·have hcv:∀v:Value,a.eval (.const v)=v:=fun _=>rfl;simp[resolve,hq,Deferred.ofValue,Sem.run_pure,hcv]
     ·simp only[invoke,callFunc,Sem.run_bind,run_program,Result.andThen_ok,g1,g3,hbn,Bool.false_eq_true,if_false,Sem.run_pure];rfl
     ·refine(u7 _ _ wB gid _ args' rv h2 hc kH sB.rel F (n - 1) hF).mono ?_;rintro e w3 ⟨v',yN,rfl,k1,s3⟩;have Me:yN h.size=some ⟨wA.heap.size,0,0⟩:=s3.le _ _ (bY _ _ _);split at hr
      ·rename_i st p f0 Qg yI pO hl;simp only[aj]at hr;obtain⟨bz,hr⟩:=hr;obtain⟨VD,d1,d2,d3,s4⟩:=og s3.rel Me bG hl .exhausted p;have ZN:Step E base B yN h2 w3 yN (h2.put h.size (.loop .exhausted p f0 Qg yI pO)) {w3 with heap:=w3.heap.setIfInBounds wA.heap.size (.loop {VD with state:=.exhausted})}:=by
        rw[←d3]at s4 ⊢;exact s4
       have pa:=((sA.trans sB).trans s3).trans ZN;have NY:cd W0 yN {w3 with heap:=w3.heap.setIfInBounds wA.heap.size (.loop {VD with state:=.exhausted})} (mk::a.defers) (w.heap.size::rs):=((hmarks.step sB).step s3).step ZN;refine⟨p,{w3 with heap:=w3.heap.setIfInBounds wA.heap.size (.loop {VD with state:=.exhausted})},?_,?_⟩
       ·unfold Instr.endLoop;simp only[Sem.run_bind,run_getLoop (P:=P) d1,Result.andThen_ok];rw[if_neg (by rw[d2];intro hh;rw[bne_iff_ne]at bz;exact bz (eq_of_beq hh))];simp only[Sem.run_bind,cJ (P:=P) d1 (fun _ _ _=>by simp),Result.andThen_ok,Sem.run_pure,d3]
       ·cases p with
        |none=>
         simp only[Option.some.injEq,Prod.mk.injEq]at hr;obtain⟨rfl,rfl,rfl⟩:=hr;exact hQ yN _ _ _ (hf.mono pa.le) NY pa
        |some cj=>
         simp only at hr;exact hk cj f _ ex f' h' hr yN {a with defers:=mk::a.defers} _ W0 _ (hf.mono pa.le) ZN.rel NY (Nat.le_trans hW pa.grow.size) F n Q hF (.inl B2) fun μ5 a5 w5 rs5 p1 p2 s5=>hQ μ5 a5 w5 rs5 p1 p2 (pa.trans s5)
      ·cases hr
   ·cases hr
  |scope b=>simp only[aN]at hr;cases hr
  |label l=>simp only[aN]at hr;cases hr
  |goto l=>simp only[aN]at hr;cases hr
  |refuse s=>simp only[aN]at hr;cases hr
end
def z5 (base:Nat) (μ:bD) (h:ah) (w:World) (b:Nat) (m:MT):Prop:=∃o o',h.get b=some o∧w.heap[m.r]? =some o'∧jA μ h base b m o o'
theorem z5.read {base:Nat} {μ:bD} {h:ah} {w:World} {b:Nat} {m:MT} (H:z5 base μ h w b m) {cs:List Value} (hr:h.rd b=some cs):
 ∃c e fr,w.heap[m.r]? =some (.cells c e fr)∧c.size=m.n∧m.s+cs.length≤m.n∧(base≤b→qi fr m.n)∧∀(i:Nat) v,cs[i]? =some v→∃v',c[m.s+i]? =some v'∧aq μ v v':=by
 obtain⟨o,o',ho,NQ,uS⟩:=H;obtain⟨r,h1,h2,h3⟩:=rd_some hr;obtain⟨f,dj,aS,hg⟩:=ef h3;rw[hg]at ho;cases ho;cases uS with
 |cells hn hl hf hc=>exact⟨_,_,_,NQ,hn,hl,hf,hc (by simp[hr])⟩
theorem z5.ai {base:Nat} {μ:bD} {h:ah} {w:World} {b o n:Nat} {m:MT} (H:z5 base μ h w b m) {l:List Value} (hr:ai h b o n=some l):
 l.length=n∧∀(i:Nat) v,l[i]? =some v→∃v',w.cell? ⟨m.r,m.s+o+i,none⟩=some v'∧aq μ v v':=by
 unfold M.ai at hr;simp only[Option.bind_eq_some_iff,bf]at hr;obtain⟨cs,h1,h2,rfl⟩:=hr;refine⟨by simp at h2 ⊢;omega,fun i v hv=>?_⟩;obtain⟨c,e,fr,hw,hn,hl,hf,hc⟩:=H.read h1;have hi:i<n:=by
  have:=(List.getElem?_eq_some_iff.1 hv).1;simp at this;omega
 rw[List.getElem?_take,if_pos hi,List.getElem?_drop]at hv;obtain⟨v',k1,k2⟩:=hc _ v hv;refine⟨v',?_,k2⟩;simp only[World.cell?,hw];simpa[Nat.add_assoc]using k1
section
variable {P:Program} {E:Env} {μ:bD} {f:AF} {a:Act} {base B:Nat} {h:ah} {w:World}
theorem z5.CG {b o n:Nat} {m:MT} (H:z5 base μ h w b m) {l:List Value} (hr:M.ai h b o n=some l):
 ∃l',ax μ l l'∧∀(i:Nat) v,l'[i]? =some v→w.cell? ⟨m.r,m.s+o+i,none⟩=some v:=by
 obtain⟨h1,h2⟩:=H.ai hr;have key:∀(l:List Value) (k:Nat),(∀(i:Nat) v,l[i]? =some v→∃v',w.cell? ⟨m.r,m.s+o+k+i,none⟩=some v'∧aq μ v v')→∃l',ax μ l l'∧∀(i:Nat) v,l'[i]? =some v→w.cell? ⟨m.r,m.s+o+k+i,none⟩=some v:=by
  intro l
  induction l with
  |nil=>intro k _;exact⟨[],.nil,fun i v h=>by simp at h⟩
  |cons v l ih=>
   intro k hl;obtain⟨v',q1,q2⟩:=hl 0 v rfl;obtain⟨l',r1,r2⟩:=ih (k+1) fun i u hu=>by
    obtain⟨u',k1,k2⟩:=hl (i+1) u (by simpa using hu);exact⟨u',by rw[←k1];congr 2;omega,k2⟩
   refine⟨v'::l',.cons q2 r1,fun i u hu=>?_⟩;cases i with
   |zero=>simp at hu;subst hu;simpa using q1
   |succ i=>
    simp at hu;rw[←r2 i u hu];congr 2;omega
 obtain⟨l',r1,r2⟩:=key l 0 (by simpa using h2);exact⟨l',r1,by simpa using r2⟩
theorem NZ (hE:bK P E) (hf:du μ f a.tmps) (hg:hZ E μ) {o:Oper} {q:RQ} {v:Value} (hq:bP E f o=some q) (Hq:∀m,μ q.dJ=some m→∃h,q.run h=some v∧z5 base μ h w q.dJ m):
 ∃v',aq μ v v'∧(execOp a.eval o).run P w= .ok (.value v') w:=by
 obtain⟨dst,op,type,pos,after,guard⟩:=o;cases op
 case load t x=>
  simp only[bP,Option.bind_eq_some_iff,Option.some.injEq]at hq;obtain⟨u,h1,p,h2,⟨agg,n⟩,h3,rfl⟩:=hq;have e:=lE h2;subst e;obtain⟨m,hb,ex⟩:=(bq hg hf h1).kP;obtain⟨h,hv,H⟩:=Hq m hb;simp only[RQ.run,Option.bind_eq_some_iff]at hv;obtain⟨l,h4,h5⟩:=hv;obtain⟨l',r1,r2⟩:=H.CG h4;obtain⟨v',q1,q2⟩:=jY h5 r1;refine⟨v',q2,?_⟩;have hl:l'.length=n:=by rw[←r1.length];exact(H.ai h4).1
  simp only[execOp,Instr.loadAt,Sem.run_bind,ex,Instr.sureAddr,Sem.run_pure,Result.andThen_ok];rw[qn hE h3 hl r2 q1];rfl
 case lookup t x ix ok=>
  simp only[bP,Option.bind_eq_some_iff]at hq;obtain⟨d,hd,mv,h1,k,h2,h3⟩:=hq;split at h3
  ·rename_i kt elem r;simp only[Option.bind_eq_some_iff,aj,Bool.and_eq_true,Option.some.injEq]at h3;obtain⟨kd,ji,z,hz,⟨⟨s1,s2⟩,s3⟩,rfl⟩:=h3;obtain⟨m,hb,ex⟩:=(bq hg hf h1).mE;have ek:=(bq hg hf h2).ar s2;obtain⟨h,hv,H⟩:=Hq m hb;simp only[RQ.run,Option.bind_eq_some_iff]at hv;obtain⟨⟨es,clock⟩,h4,h5⟩:=hv;obtain⟨o1,o2,k1,k2,k3⟩:=H;have hm:h.get r=some (.map es clock):=by
    unfold fj at h4;split at h4<;>simp at h4;obtain⟨rfl,rfl⟩:=h4;assumption
   simp only[RQ.dJ]at k1 k3;rw[hm]at k1;cases k1;cases k3 with
   |map hs=>
    rename_i cb;have rZ:=run_getObj_map (P:=P) k2 (fun _ _ _=>by simp);simp only[kx,Option.bind_eq_some_iff,Option.some.injEq]at h5;obtain⟨fr,h6,h7⟩:=h5;obtain⟨Qj,q1,q2,q3⟩:=ke hs h6;have tV:=aq.cG μ s3;have GO:(Instr.findKey kt k cb.toList).run P w= .ok Qj w:=by
     simp only[Instr.findKey,Sem.run_bind,aM hE ji w,Result.andThen_ok,q1,Sem.run_pure]
    have yK:=lF (P:=P) hE ji s1 cb.isEmpty 9999 k w;have fin:∀(u u':Value) (b:Bool),aq μ u u'→aq μ (bif ok then .tuple #[u,.bool b]else u) (if ok=true then .tuple #[u',.bool b]else u'):=by
     intro u u' b hu;cases ok with
     |true=>simp only[cond_true,if_true];exact .dS (by simpa using ax.cons hu (.cons (.bool μ b) .nil))
     |false=>simpa using hu
    cases fr with
    |none=>
     have e:=q2 rfl;subst e;simp only at h7;subst h7;refine⟨_,fin z z false tV,?_⟩;simp only[execOp,Instr.lookup,Sem.run_bind,aM hE hd w,Result.andThen_ok,ex,ek,rZ,Sem.run_pure,yK,GO,lz hE hz w]
    |some jv=>
     obtain⟨v',e,hr⟩:=q3 jv.1 jv.2 rfl;subst e;simp only at h7;subst h7;refine⟨_,fin jv.2 v' true hr,?_⟩;simp only[execOp,Instr.lookup,Sem.run_bind,aM hE hd w,Result.andThen_ok,ex,ek,rZ,Sem.run_pure,yK,GO]
  ·cases h3
 case call c=>
  simp only[bP]at hq;split at hq
  ·rename_i t ts Es ZD;simp only[Option.bind_eq_some_iff]at hq;obtain⟨d,hd,args,h1,h2⟩:=hq;split at h2
   ·rename_i kt et r rest;simp only[Option.some.injEq]at h2;subst h2;have hr:=kS hg hf h1;cases mn:c.args.toList.map a.eval with
    |nil=>rw[mn]at hr;cases hr
    |cons u us=>
     rw[mn]at hr;cases hr with
     |cons hx _=>
      obtain⟨m,hb,rfl⟩:=hx.mE;obtain⟨h,hv,H⟩:=Hq m hb;simp only[RQ.run,Option.bind_eq_some_iff,Option.some.injEq]at hv;obtain⟨⟨es,clock⟩,h4,rfl⟩:=hv;obtain⟨o1,o2,k1,k2,k3⟩:=H;have hm:h.get r=some (.map es clock):=by
       unfold fj at h4;split at h4<;>simp at h4;obtain⟨rfl,rfl⟩:=h4;assumption
      simp only[RQ.dJ]at k1 k3;rw[hm]at k1;cases k1;cases k3 with
      |map hs=>
       rename_i cb;have rZ:=run_getObj_map (P:=P) k2 (fun _ _ _=>by simp);have e0:(c.args.map a.eval)[0]? =some (.map (some m.r)):=by
        have:(c.args.map a.eval).toList= .map (some m.r)::us:=by simpa using mn
        rw[←Array.getElem?_toList,this];rfl
       have e1:c.argTypes[0]? =some t:=by rw[←Array.getElem?_toList,ZD];rfl
       refine⟨goInt cb.size,?_,?_⟩
       ·have:=hs.length;simp only[Array.length_toList]at this;rw[this];exact .int μ _ _
       ·simp only[execOp,resolve,Es,Sem.run_bind,Sem.run_pure,Result.andThen_ok,invoke,builtin,Builtin.len_,e0,e1,aM hE hd w,rZ]
   ·cases h2
  ·cases hq
 all_goals(simp only[bP]at hq;cases hq)
def B3 (o:Oper) (f f':AF):Prop:=∀t,Operand.tmp t∈o.op.operands→f.get t=f'.get t
theorem bT {f f':AF} {x:Operand} (h:∀t,x= .tmp t→f.get t=f'.get t):ev E f x=ev E f' x:=by
 cases x<;>simp only[ev];rw[h _ rfl]
theorem oh {f f':AF}:∀{xs:List Operand},(∀t,Operand.tmp t∈xs→f.get t=f'.get t)→JK E f xs=JK E f' xs
 |[],_=>rfl
 |x::l,h=>by
  simp only[JK];rw[bT (fun t e=>h t (by rw[e];exact List.mem_cons_self)),oh fun t ht=>h t (List.mem_cons_of_mem _ ht)]
theorem pb {f f':AF}:∀{xs:List (Nat×Operand)},(∀t,Operand.tmp t∈xs.map (·.2)→f.get t=f'.get t)→jd E f xs=jd E f' xs
 |[],_=>rfl
 |(i,x)::l,h=>by
  simp only[jd];rw[bT (fun t e=>h t (by rw[e];exact List.mem_cons_self)),pb fun t ht=>h t (List.mem_cons_of_mem _ ht)]
theorem ua {f f':AF} {x:Option Operand} (h:∀t,x=some (.tmp t)→f.get t=f'.get t):qd E f x=qd E f' x:=by
 cases x<;>simp only[qd];rw[bT fun t e=>h t (by rw[e])]
theorem JY {f f':AF} {o:Oper} (h:B3 o f f'):aO E f o=aO E f' o:=by
 obtain⟨dst,op,type,pos,after,guard⟩:=o;unfold B3 at h;cases op<;>simp only[Op.operands]at h<;>simp only[aO]
 case call c=>
  have h2:∀t,Operand.tmp t∈c.args.toList→f.get t=f'.get t:=fun t ht=>h t (by simp[Call.operands]at ht ⊢;exact .inr ht);rw[oh h2]
 case makeFunc fn first captured=>
  rw[oh (xs:=first.toList) fun t ht=>h t (by simp at ht ⊢;exact .inl ht),oh (xs:=captured.toList) fun t ht=>h t (by simp at ht ⊢;exact .inr ht)]
 case build t ps=>rw[pb fun t ht=>h t (by simpa using ht)]
 case slice t x lo hi mx=>
  rw[bT fun t e=>h t (by simp[e]),ua (x:=lo) fun t e=>h t (by simp[e]),ua (x:=hi) fun t e=>h t (by simp[e]),ua (x:=mx) fun t e=>h t (by simp[e])]
 case pick c x y=>rw[bT (x:=c) fun t e=>h t (by simp[e]),bT (x:=x) fun t e=>h t (by simp[e]),bT (x:=y) fun t e=>h t (by simp[e])]
 case binOp op t x y z=>rw[bT (x:=x) fun t e=>h t (by simp[e]),bT (x:=y) fun t e=>h t (by simp[e])]
 case indexAddr t x y=>rw[bT (x:=x) fun t e=>h t (by simp[e]),bT (x:=y) fun t e=>h t (by simp[e])]
 case index t x y=>rw[bT (x:=x) fun t e=>h t (by simp[e]),bT (x:=y) fun t e=>h t (by simp[e])]
 case lookup t x y k=>rw[bT (x:=x) fun t e=>h t (by simp[e]),bT (x:=y) fun t e=>h t (by simp[e])]
 all_goals first|rfl |(rw[bT fun t e=>h t (by simp[e])])
theorem JZ {f f':AF} {o:Oper} (h:B3 o f f'):bP E f o=bP E f' o:=by
 obtain⟨dst,op,type,pos,after,guard⟩:=o;unfold B3 at h;cases op<;>simp only[Op.operands]at h<;>simp only[bP]
 case call c=>
  have h2:∀t,Operand.tmp t∈c.args.toList→f.get t=f'.get t:=fun t ht=>h t (by simp[Call.operands]at ht ⊢;exact .inr ht);rw[oh h2]
 case lookup t x y k=>rw[bT (x:=x) fun t e=>h t (by simp[e]),bT (x:=y) fun t e=>h t (by simp[e])]
 all_goals first|rfl |(rw[bT fun t e=>h t (by simp[e])])
theorem GZ {f f':AF} {o:Oper} (h:B3 o f f'):bt E f o=bt E f' o:=by
 obtain⟨dst,op,type,pos,after,guard⟩:=o;unfold B3 at h;cases op<;>simp only[Op.operands]at h<;>simp only[bt]
 case buildSlice t n ps=>rw[pb fun t ht=>h t (by simpa using ht)]
 case makeMap t r=>cases r<;>rfl
 case makeSlice t x y=>rw[bT (x:=x) fun t e=>h t (by simp[e]),bT (x:=y) fun t e=>h t (by simp[e])]
 all_goals first|rfl |(rw[bT fun t e=>h t (by simp[e])])
theorem N0 {f f':AF} {o:Oper} (h:B3 o f f') (k:ah):dk E base f o k=dk E base f' o k:=by
 obtain⟨dst,op,type,pos,after,guard⟩:=o;unfold B3 at h;cases op<;>simp only[Op.operands]at h<;>simp only[dk]
 case call c=>
  have h2:∀t,Operand.tmp t∈c.args.toList→f.get t=f'.get t:=fun t ht=>h t (by simp[Call.operands]at ht ⊢;exact .inr ht);rw[oh h2];cases hc:c.callee with
  |value g=>
   have h3:∀t,g= .tmp t→f.get t=f'.get t:=fun t ht=>h t (by simp[Call.operands,hc,ht]);simp only
   rw[bT h3]
  |builtin b=>rfl
  |invoke r m=>rfl
 case store t x y=>rw[bT (x:=x) fun t e=>h t (by simp[e]),bT (x:=y) fun t e=>h t (by simp[e])]
 case mapUpdate t x y z|insert t x y z=>rw[bT (x:=x) fun t e=>h t (by simp[e]),bT (x:=y) fun t e=>h t (by simp[e]),bT (x:=z) fun t e=>h t (by simp[e])]
 all_goals first|rfl |(rw[bT fun t e=>h t (by simp[e])])
theorem J0 {f f':AF} {o:Oper} (h:B3 o f f') (k:ah) (cf:fk) (rf:eD):eM E base cf rf o f k=eM E base cf rf o f' k:=by
 unfold eM;rw[JY h,JZ h,GZ h,N0 h]
def AF.only (f:AF) (l:List Nat):AF:=⟨l.foldl (fun tr t=>tr.set t (f.get t)) .nil,f.n⟩
theorem AF.z6 (f:AF) (l:List Nat) (t:Nat):(f.only l).get t=if t∈l then f.get t else undef:=by
 have key:∀(l:List Nat) (tr:Tr Value),(∀t,tr.get t=none∨tr.get t=some (f.get t))→∀t,(l.foldl (fun tr t=>tr.set t (f.get t)) tr).get t=if t∈l then some (f.get t)else tr.get t:=by
  intro l
  induction l with
  |nil=>intro tr _ t;simp
  |cons x l ih=>
   intro tr VE t;simp only[List.foldl_cons];have h0:∀t,(tr.set x (f.get x)).get t=none∨(tr.set x (f.get x)).get t=some (f.get t):=fun t=>by
    rw[Tr.iB];by_cases e:t=x
    ·subst e;rw[if_pos rfl];exact .inr rfl
    ·rw[if_neg e];exact VE t
   rw[ih _ h0 t,Tr.iB];by_cases h1:t∈l
   ·simp[h1]
   ·by_cases h2:t=x
    ·subst h2;simp
    ·simp[h1,h2]
 have e:(f.only l).get t=(match(l.foldl (fun(tr:Tr Value) t=>tr.set t (f.get t)) Tr.nil).get t with|some v=>v|none=>undef):=rfl;rw[e,key l .nil (fun _=>.inl rfl) t,Tr.get_nil];by_cases ht:t∈l
 ·rw[if_pos ht,if_pos ht]
 ·rw[if_neg ht,if_neg ht]
def oi (tmps:Array Value) (l:List Nat):Array Value:=(Array.range tmps.size).map fun t=>if t∈l then tmps.getD t undef else undef
theorem z7 (tmps:Array Value) (l:List Nat):(oi tmps l).size=tmps.size:=by simp[oi]
theorem CN (tmps:Array Value) (l:List Nat) (t:Nat):(oi tmps l).getD t undef=if t∈l then tmps.getD t undef else undef:=by
 by_cases ht:t<tmps.size
 ·simp[oi,ht]
 ·simp[oi,ht]
def CO (a:Act) (l:List Nat):Act:={a with tmps:=oi a.tmps l}
theorem Q1 {f:AF} {a:Act} {l:List Nat} (hn:a.tmps.size=f.n) (h:∀t∈l,aq μ (f.get t) (a.tmps.getD t undef)):du μ (f.only l) (CO a l).tmps:=by
 refine⟨?_,fun t=>?_⟩
 ·show f.n=(oi a.tmps l).size;rw[z7];exact hn.symm
 ·show aq μ _ ((oi a.tmps l).getD t undef);rw[AF.z6,CN];split
  ·exact h t ‹_›
  ·exact .undef μ
theorem tc {ops:List Oper} {o:Oper} {t:Nat} (h:Operand.tmp t∈o.op.operands):t∈looks ops o:=by
 unfold looks;exact List.mem_append_left _ (List.mem_filterMap.2 ⟨.tmp t,by simpa using h,rfl⟩)
theorem pP {ops:List Oper} {o:Oper} {g:Nat} {want:Bool} {t:Nat} (h:o.guard=some (g,want)) (h2:(ops[g]?).bind (·.dst)=some t):t∈looks ops o:=by
 unfold looks;rw[h];simp[h2]
theorem N1 (ops:List Oper) (o:Oper) (f:AF):B3 o (f.only (looks ops o)) f:=fun t ht=>by
 rw[AF.z6,if_pos (tc ht)]
theorem G0 (ops:List Oper) (o:Oper) (f:AF):wanted ops o (f.only (looks ops o))=wanted ops o f:=by
 unfold wanted;cases hg:o.guard with
 |none=>rfl
 |some gw=>
  obtain⟨g,want⟩:=gw;simp only
  cases hd:(ops[g]?).bind (·.dst)with
  |none=>rfl
  |some t=>
   simp only
   rw[AF.z6,if_pos (pP hg hd)]
theorem N3 {ops:List Oper} {o:Oper} {a:Act} {x:Operand} (h:x∈o.op.operands):a.eval x=(CO a (looks ops o)).eval x:=by
 cases x with
 |tmp t=>
  have:=CN a.tmps (looks ops o) t;rw[if_pos (tc h)]at this;show a.tmps.getD t undef=(oi a.tmps (looks ops o)).getD t undef;exact this.symm
 |_=>rfl
theorem N4 {ops:List Oper} {o:Oper} {a:Act} (hs:∀cs b,o.op≠ .select cs b):execOp a.eval o=execOp (CO a (looks ops o)).eval o:=
 execOp_congr o hs fun _ hx=>N3 hx
theorem EG {ops:Array Oper} {o:Oper} {a:Act}:Region.wanted o (yielded ops (CO a (looks ops.toList o)).tmps)=Region.wanted o (yielded ops a.tmps):=by
 unfold Region.wanted;cases hg:o.guard with
 |none=>rfl
 |some gw=>
  obtain⟨g,want⟩:=gw;simp only
  congr 1
  unfold yielded;cases hd:(ops[g]?).bind (·.dst)with
  |none=>simp
  |some t=>
   simp only[Option.bind_some];have hm:t∈looks ops.toList o:=pP hg (by simpa using hd);show(match(oi a.tmps (looks ops.toList o))[t]? with|some (.bool b)=>some b|_=>none)=_;by_cases ht:t<a.tmps.size
   ·have h1:(oi a.tmps (looks ops.toList o))[t]? =a.tmps[t]? :=by
     simp[oi,ht,hm]
    rw[h1];rfl
   ·have e1:a.tmps[t]? =none:=Array.getElem?_eq_none (Nat.le_of_not_lt ht);have e2:(oi a.tmps (looks ops.toList o))[t]? =none:=Array.getElem?_eq_none (by rw[z7];exact Nat.le_of_not_lt ht);rw[e1,e2]
theorem noSelect {cf:fk} {rf:eD} {o:Oper} {r:Zp} {k:ah} (h:eM E base cf rf o f k=some r):∀cs b,o.op≠ .select cs b:=by
 intro cs b hc;unfold eM at h;simp only[aO,bP,bt,dk,hc]at h;cases h
end
section
variable {E:Env} {base:Nat} {cf:fk} {rf:eD}
theorem xL {o:Oper} {f:AF} {h:ah} {r:Zp} (hr:eM E base cf rf o f h=some r):
 (aO E f o=some r.v∧r.h=h∧r.log= .pure)∨
 (∃q,bP E f o=some q∧q.run h=some r.v∧r.h=h∧r.log= .rd q h)∨
 (∃md hd,bt E f o=some (md,hd)∧r.v=hd.val h.size∧r.h=h.push (md.obj h.size)∧r.log= .alloc h r.h)∨
 r.log= .dI h r.h:=by
 unfold eM at hr;split at hr
 ·simp only[Option.some.injEq]at hr;subst hr;exact .inl ⟨by assumption,rfl,rfl⟩
 ·split at hr
  ·simp only[Option.bind_eq_some_iff,Option.some.injEq]at hr;obtain⟨v,hv,rfl⟩:=hr;exact .inr (.inl ⟨_,by assumption,hv,rfl,rfl⟩)
  ·split at hr
   ·simp only[Option.some.injEq]at hr;subst hr;exact .inr (.inr (.inl ⟨_,_,by assumption,rfl,rfl,rfl⟩))
   ·split at hr
    ·simp only[Option.some.injEq]at hr;subst hr;rename_i he;refine .inr (.inr (.inr rfl))
    ·simp only[Option.bind_eq_some_iff,Option.some.injEq]at hr;obtain⟨x,_,rfl⟩:=hr;exact .inr (.inr (.inr rfl))
    ·simp only[Option.bind_eq_some_iff,Option.some.injEq]at hr;obtain⟨x,_,rfl⟩:=hr;exact .inr (.inr (.inr rfl))
    ·cases hr
structure Trace (E:Env) (base:Nat) (cf:fk) (rf:eD) (all ops:List Oper) (fs:Nat→AF) (hs:Nat→ah) (vs:Nat→Value) (lg:Nat→eK):Prop where
 put:∀j o,ops[j]? =some o→fs (j+1)=(fs j).put o.dst (vs j)
 run:∀j o,ops[j]? =some o→(wanted all o (fs j)=true∧eM E base cf rf o (fs j) (hs j)=some ⟨vs j,hs (j+1),lg j⟩)∨(wanted all o (fs j)=false∧vs j=undef∧hs (j+1)=hs j∧lg j= .pure)
theorem G4 {all:List Oper}:∀{ops:List Oper} {f:AF} {h:ah} {f':AF} {h':ah} {wy:List eK},kE E base cf rf all ops f h=some (f',h',wy)→
 ∃fs hs vs lg,Trace E base cf rf all ops fs hs vs lg∧fs 0=f∧hs 0=h∧fs ops.length=f'∧hs ops.length=h'∧∀j,j<ops.length→wy[j]? =some (lg j)
 |[],f,h,f',h',wy,hr=>by
  simp only[kE,Option.some.injEq,Prod.mk.injEq]at hr;obtain⟨rfl,rfl,rfl⟩:=hr;exact⟨fun _=>f,fun _=>h,fun _=>undef,fun _=>.pure,⟨fun j o ho=>by simp at ho,fun j o ho=>by simp at ho⟩,rfl,rfl,rfl,rfl,fun j hj=>by simp at hj⟩
 |o::ops,f,h,f',h',wy,hr=>by
  simp only[kE]at hr
  have fin:∀(v:Value) (h1:ah) (l1:eK) (f1:AF) (h2:ah) (l2:List eK),kE E base cf rf all ops (f.put o.dst v) h1=some (f1,h2,l2)→
   ((wanted all o f=true∧eM E base cf rf o f h=some ⟨v,h1,l1⟩)∨(wanted all o f=false∧v=undef∧h1=h∧l1= .pure))→
   ∃fs hs vs lg,Trace E base cf rf all (o::ops) fs hs vs lg∧fs 0=f∧hs 0=h∧fs (o::ops).length=f1∧hs (o::ops).length=h2∧∀j,j<(o::ops).length→(l1::l2)[j]? =some (lg j):=by
   intro v h1 l1 f1 h2 l2 ia hk;obtain⟨fs,hs,vs,lg,T,e1,e2,e3,e4,e5⟩:=G4 ia;refine⟨fun |0=>f|j+1=>fs j,fun |0=>h|j+1=>hs j,fun |0=>v|j+1=>vs j,fun |0=>l1|j+1=>lg j,⟨?_,?_⟩,rfl,rfl,e3,e4,?_⟩
   ·intro j p hp;cases j with
    |zero=>simp at hp;subst hp;exact e1
    |succ j=>exact T.put j p (by simpa using hp)
   ·intro j p hp;cases j with
    |zero=>simp at hp;subst hp;simpa[e2]using hk
    |succ j=>exact T.run j p (by simpa using hp)
   ·intro j hj;cases j with
    |zero=>rfl
    |succ j=>simpa using e5 j (by simpa using hj)
  split at hr
  ·rename_i hw;simp only[Option.bind_eq_some_iff,Option.some.injEq,Prod.mk.injEq]at hr;obtain⟨r,jI,⟨f1,h2,l2⟩,oO,rfl,rfl,rfl⟩:=hr;exact fin _ _ _ _ _ _ oO (.inl ⟨hw,by rw[jI]⟩)
  ·rename_i hw;simp only[Option.bind_eq_some_iff,Option.some.injEq,Prod.mk.injEq]at hr;obtain⟨⟨f1,h2,l2⟩,oO,rfl,rfl,rfl⟩:=hr;exact fin _ _ _ _ _ _ oO (.inr ⟨hw,rfl,rfl,rfl⟩)
def J1 (acc:List Nat) (s:Nat) (e:Edge):Nat:=match Region.binds .any e with|true=>s|||2 ^ e.on|||acc.getD e.on 0|false=>s
theorem EH (p:Oper) (l:List Oper) (acc:List Nat):dC (p::l) acc=dC l (acc++[p.after.toList.foldl (J1 acc) 0]):=rfl
theorem z8 (acc:List Nat) (b:Nat):∀(es:List Edge) (s:Nat),(es.foldl (J1 acc) s).testBit b=true→
 s.testBit b=true∨∃e∈es,Region.binds .any e=true∧(b=e.on∨(acc.getD e.on 0).testBit b=true)
 |[],s,h=>.inl h
 |e::es,s,h=>by
  simp only[List.foldl_cons]at h;rcases z8 acc b es _ h with h1|⟨e',h1,h2⟩
  ·unfold J1 at h1;cases hb:Region.binds .any e with
   |false=>rw[hb]at h1;exact .inl h1
   |true=>
    rw[hb]at h1;simp only[Nat.testBit_or,Bool.or_eq_true,Nat.testBit_two_pow,decide_eq_true_eq]at h1;rcases h1 with (h1|h1)|h1
    ·exact .inl h1
    ·exact .inr ⟨e,List.mem_cons_self,hb,.inl h1.symm⟩
    ·exact .inr ⟨e,List.mem_cons_self,hb,.inr h1⟩
  ·exact .inr ⟨e',List.mem_cons_of_mem _ h1,h2⟩
theorem u9:∀(l:List Oper) (acc:List Nat),∃ys,dC l acc=acc++ys∧∀i o,l[i]? =some o→∀b,((acc++ys).getD (acc.length+i) 0).testBit b=true→
 ∃e∈o.after.toList,Region.binds .any e=true∧(b=e.on∨(e.on<acc.length+i∧((acc++ys).getD e.on 0).testBit b=true))
 |[],acc=>⟨[],by simp[dC],fun i o h=>by simp at h⟩
 |p::l,acc=>by
  obtain⟨ys,h1,h2⟩:=u9 l (acc++[p.after.toList.foldl (J1 acc) 0]);refine⟨(p.after.toList.foldl (J1 acc) 0)::ys,by rw[EH,h1];simp,fun i o ho b hb=>?_⟩;cases i with
  |zero=>
   simp at ho;subst ho;have e0:(acc++(p.after.toList.foldl (J1 acc) 0)::ys).getD (acc.length+0) 0=(p.after.toList.foldl (J1 acc) 0):=by
    simp[List.getD]
   rw[e0]at hb;rcases z8 _ _ _ _ hb with hz|⟨e,k1,k2,k3⟩
   ·simp at hz
   ·refine⟨e,k1,k2,?_⟩;rcases k3 with k3|k3
    ·exact .inl k3
    ·by_cases bw:e.on<acc.length
     ·refine .inr ⟨om,?_⟩;rw[←k3];simp[List.getD,List.getElem?_append_left bw]
     ·simp[List.getD,List.getElem?_eq_none (Nat.le_of_not_lt bw)]at k3
  |succ i=>
   have:=h2 i o (by simpa using ho) b (by simpa[Nat.add_assoc,Nat.add_comm 1 i]using hb);simpa[Nat.add_assoc,Nat.add_comm 1 i]using this
theorem xM {ops:List Oper} {i:Nat} {o:Oper} (ho:ops[i]? =some o) {b:Nat} (hb:((dC ops []).getD i 0).testBit b=true):
 ∃e∈o.after.toList,Region.binds .any e=true∧(b=e.on∨(e.on<i∧((dC ops []).getD e.on 0).testBit b=true)):=by
 obtain⟨ys,h1,h2⟩:=u9 ops [];simp only[List.nil_append,List.length_nil,Nat.zero_add]at h1 h2;rw[h1]at hb ⊢;exact h2 i o ho b hb
theorem vd {ops:List Oper} {bs:List Nat} {i:Nat} {o:Oper}:∀{l:List Oper} {j0:Nat},qh ops bs i o j0 l=true→∀k p,l[k]? =some p→i≠j0+k→∀d,p.dst=some d→o.dst≠some d∧(d∈looks ops o→ordered bs i (j0+k)=true)
 |[],j0,_,k,p,hp,_,d,_=>by simp at hp
 |q::l,j0,h,k,p,hp,bC,d,hd=>by
  simp only[qh,Bool.and_eq_true,Bool.or_eq_true,beq_iff]at h;obtain⟨h1,h2⟩:=h;cases k with
  |zero=>
   simp at hp;subst hp;rcases h1 with h1|h1
   ·exact absurd h1 bC
   ·rw[hd]at h1;simp only[Bool.and_eq_true,bne_iff_ne,Bool.or_eq_true,Bool.not_eq_true']at h1;refine⟨h1.1,fun hm=>?_⟩;rcases h1.2 with h3|h3
    ·have:(looks ops o).contains d=true:=by simpa using hm
     rw[this]at h3;cases h3
    ·exact h3
  |succ k=>
   have:=vd h2 k p (by simpa using hp) om d hd;rw[show j0+(k+1)=j0+1+k by omega];exact this
theorem xN {ops:List Oper} {bs:List Nat}:∀{l:List Oper} {i0:Nat},y7 ops bs i0 l=true→∀k o,l[k]? =some o→qh ops bs (i0+k) o 0 ops=true∧∀e∈o.after.toList,Region.binds .any e=true→e.on<i0+k
 |[],i0,_,k,o,ho=>by simp at ho
 |q::l,i0,h,k,o,ho=>by
  simp only[y7,Bool.and_eq_true,List.all_eq_true,Bool.or_eq_true,Bool.not_eq_true',bc]at h;obtain⟨⟨h1,h2⟩,h3⟩:=h;cases k with
  |zero=>
   simp at ho;subst ho;refine⟨h1,fun e he hb=>?_⟩;rcases h2 e he with h4|h4
   ·rw[hb]at h4;cases h4
   ·exact h4
  |succ k=>
   have:=xN h3 k o (by simpa using ho);rw[show i0+(k+1)=i0+1+k by omega];exact this
structure pc (ops:List Oper):Prop where
 adY:∀(i:Nat) (o:Oper),ops[i]? =some o→∀e∈o.after.toList,Region.binds .any e=true→e.on<i
 one:∀(i j:Nat) (o p:Oper) (d:Tmp),ops[i]? =some o→ops[j]? =some p→i≠j→p.dst=some d→o.dst≠some d
 look:∀(i j:Nat) (o p:Oper) (d:Tmp),ops[i]? =some o→ops[j]? =some p→i≠j→p.dst=some d→d∈looks ops o→ordered (dC ops []) i j=true
theorem ZO {ops:List Oper} (h:n9 ops=true):pc ops:=by
 have key:=fun i o ho=>xN (l:=ops) (i0:=0) h i o ho;simp only[Nat.zero_add]at key;have k2:=fun i o ho j p (hp:ops[j]? =some p)=>vd (l:=ops) (j0:=0) (key i o ho).1 j p hp;simp only[Nat.zero_add]at k2;exact⟨fun i o ho=>(key i o ho).2,fun i j o p d ho hp bC hd=>(k2 i o ho j p hp bC d hd).1,fun i j o p d ho hp bC hd hm=>(k2 i o ho j p hp bC d hd).2 hm⟩
theorem Q2 {ops:List Oper} (T:pc ops):∀(j:Nat) (o:Oper),ops[j]? =some o→∀b,((dC ops []).getD j 0).testBit b=true→b<j:=by
 intro j
 induction j using Nat.strongRecOn with
 |ind j ih=>
  intro o ho b hb;obtain⟨e,h1,h2,h3⟩:=xM ho hb;have bw:=T.adY j o ho e h1 h2;rcases h3 with rfl |⟨h3,h4⟩
  ·exact bw
  ·have hlen:j<ops.length:=(List.getElem?_eq_some_iff.1 ho).1;have:=ih e.on h3 _ (List.getElem?_eq_getElem om) b h4;omega
def z9 (_:List Oper) (L:Nat→Bool) (o:Oper):Prop:=∀e∈o.after.toList,Region.binds .any e=true→L e.on=true
def ub (ops:List Oper) (L:Nat→Bool):Prop:=∀j o,ops[j]? =some o→L j=true→z9 ops L o
theorem J2 {ops:List Oper} {L:Nat→Bool} (C:ub ops L):∀(j:Nat) (o:Oper),ops[j]? =some o→z9 ops L o→∀b,((dC ops []).getD j 0).testBit b=true→L b=true:=by
 intro j
 induction j using Nat.strongRecOn with
 |ind j ih=>
  intro o ho hr b hb;obtain⟨e,h1,h2,h3⟩:=xM ho hb;have hl:=hr e h1 h2;rcases h3 with rfl |⟨h3,h4⟩
  ·exact hl
  ·have hlen:j<ops.length:=(List.getElem?_eq_some_iff.1 ho).1;have h5:=List.getElem?_eq_getElem (l:=ops) (i:=e.on) om;exact ih e.on h3 _ h5 (C _ _ h5 hl) b h4
theorem gM {ops:List Oper} (T:pc ops) {L:Nat→Bool} (C:ub ops L) {i j:Nat} (Qk:i<j) {o:Oper} (ho:ops[j]? =some o) (hr:z9 ops L o) (h:ordered (dC ops []) i j=true∨ordered (dC ops []) j i=true):L i=true:=by
 have hlen:j<ops.length:=(List.getElem?_eq_some_iff.1 ho).1;have h5:=List.getElem?_eq_getElem (l:=ops) (i:=i) om;have:((dC ops []).getD j 0).testBit i=true:=by
  unfold ordered at h;simp only[Bool.or_eq_true]at h;rcases h with (h|h)|(h|h)
  ·exact h
  ·have:=Q2 T i _ h5 j h;omega
  ·have:=Q2 T i _ h5 j h;omega
  ·exact h
 exact J2 C j o ho hr i this
theorem ve {bs:List Nat} {i:Nat} {x:eK}:∀{l:List eK} {j0:Nat},cI bs i x j0 l=true→∀k y,l[k]? =some y→bk bs i x (j0+k) y=true
 |[],_,_,k,y,h=>by simp at h
 |z::l,j0,h,k,y,hy=>by
  simp only[cI,Bool.and_eq_true]at h;cases k with
  |zero=>simp at hy;subst hy;exact h.1
  |succ k=>
   have:=ve h.2 k y (by simpa using hy);rw[show j0+(k+1)=j0+1+k by omega];exact this
theorem xO {bs:List Nat}:∀{l:List eK} {i0:Nat},mz bs i0 l=true→(∀(i:Nat) (x:eK),l[i]? =some x→ng x=true)∧∀(i j:Nat) (x y:eK),i<j→l[i]? =some x→l[j]? =some y→bk bs (i0+i) x (i0+j) y=true
 |[],_,_=>⟨fun i x h=>by simp at h,fun i j x y _ h=>by simp at h⟩
 |z::l,i0,h=>by
  simp only[mz,Bool.and_eq_true]at h;obtain⟨⟨h1,h2⟩,h3⟩:=h;obtain⟨k1,k2⟩:=xO h3;refine⟨fun i x hx=>?_,fun i j x y Qk hx hy=>?_⟩
  ·cases i with
   |zero=>simp at hx;subst hx;exact h1
   |succ i=>exact k1 i x (by simpa using hx)
  ·cases j with
   |zero=>omega
   |succ j=>
    cases i with
    |zero=>
     simp at hx;subst hx;have:=ve h2 j y (by simpa using hy);rw[show i0+(j+1)=i0+1+j by omega];exact this
    |succ i=>
     have:=k2 i j x y om (by simpa using hx) (by simpa using hy);rw[show i0+(i+1)=i0+1+i by omega,show i0+(j+1)=i0+1+j by omega];exact this
variable {all ops:List Oper} {fs:Nat→AF} {hs:Nat→ah} {vs:Nat→Value} {lg:Nat→eK}
theorem Trace.ZP (T:Trace E base cf rf all ops fs hs vs lg):∀k,k≤ops.length→(fs k).n=(fs 0).n:=by
 intro k
 induction k with
 |zero=>intro _;rfl
 |succ k ih=>
  intro hk;rw[T.put k _ (List.getElem?_eq_getElem om),AF.L2,ih om]
theorem AF.br (f:AF) (d:Option Tmp) (v:Value) (t:Nat):(f.put d v).get t=if d=some t∧t<f.n then v else f.get t:=by
 cases d with
 |none=>simp[AF.put]
 |some d=>
  simp only[AF.put,AF.iB,Option.some.injEq];by_cases e:t=d
  ·subst e;simp
  ·have:d≠t:=fun h=>e h.symm;simp[e,this]
theorem Trace.Q3 (T:Trace E base cf rf all ops fs hs vs lg) (t:Nat):∀k,k≤ops.length→(∀j o,j<k→ops[j]? =some o→o.dst≠some t)→(fs k).get t=(fs 0).get t:=by
 intro k
 induction k with
 |zero=>intro _ _;rfl
 |succ k ih=>
  intro hk uc;rw[T.put k _ (List.getElem?_eq_getElem om),AF.br,if_neg (fun h=>uc k _ om (List.getElem?_eq_getElem om) h.1),ih om fun j o hj ho=>uc j o om ho]
theorem Trace.Q4 (T:Trace E base cf rf all ops fs hs vs lg) (X:pc ops) {t:Nat} (ht:t<(fs 0).n) {j:Nat} {o:Oper} (ho:ops[j]? =some o) (hd:o.dst=some t):∀k,k≤ops.length→j<k→(fs k).get t=vs j:=by
 intro k
 induction k with
 |zero=>intro _ h;omega
 |succ k ih=>
  intro hk hjk;have Mf:=List.getElem?_eq_getElem (l:=ops) (i:=k) om;rw[T.put k _ Mf,AF.br];by_cases e:j=k
  ·subst e;rw[Mf]at ho;cases ho;rw[if_pos ⟨hd,by rw[T.ZP j om];exact ht⟩]
  ·rw[if_neg (fun h=>X.one k j _ o t Mf ho (fun h=>e h.symm) hd h.1),ih om om]
end
section
variable {P:Program} {E:Env} {μ:bD} {f:AF} {a:Act} {base B:Nat} {h:ah} {w:World} {cf:fk} {rf:eD}
theorem VF (hE:bK P E) (B0:kA P E base B cf) (Ey:o6 P E base B rf) (Ez:o7 E cf) (EA:lN rf) {F:Fence} (hF:iH F) {n:Nat} (hf:du μ f a.tmps) (H:bB E base B μ h w) {o:Oper} {r:Zp} (hr:eM E base cf rf o f h=some r) {a1:Act} (hex:execOp a1.eval o=execOp a.eval o)
 {next:Act→World→Prop} {Q:Exit→Act→World→Prop} (hn:∀bd v' w',aq bd r.v v'→Step E base B μ h w bd r.h w'→next (a1.put o.dst v') w'):o.wpIn F n P a1 w next Q:=by
 have hg:hZ E μ:=H.dN;refine⟨fun _ _=>hF.fn _,?_⟩;rw[Oper.semAt_eq _ _ _ (Ew hr),hex];unfold eM at hr;split at hr
 ·rename_i v hp;simp only[Option.some.injEq]at hr;subst hr;obtain⟨v',q1,q2⟩:=rX hE hg hf hp;rw[q2 w];exact hn μ v' w q1 (.refl H)
 ·split at hr
  ·rename_i q hq;simp only[Option.bind_eq_some_iff,Option.some.injEq]at hr;obtain⟨v,hv,rfl⟩:=hr;obtain⟨v',q1,q2⟩:=wq hE hf H hq hv;rw[q2];exact hn μ v' w q1 (.refl H)
  ·split at hr
   ·rename_i md hd dh;simp only[Option.some.injEq]at hr;subst hr;obtain⟨o',k,hv,S⟩:=oX hE hg hf dh;rw[S.run w];have st:=Step.alloc (o:=md.obj h.size) H (GI.mk' w o') k (fun cs f dj aS hh=>by cases md<;>simp[Made.obj]at hh;exact⟨hh.2.1.symm,hh.2.2.1.symm⟩) (S.obj _ _ _ _ _ (g9 H.fresh));exact hn _ _ _ (S.val _ _ _ (bY _ _ _)) st
   ·split at hr
    ·rename_i v h' he;simp only[Option.some.injEq]at hr;subst hr;obtain⟨bd,nx,v',w',q1,q2,q3,q4⟩:=zT hE hf H he;rw[q1];rcases q2 with rfl |⟨rfl,rfl⟩
     ·exact hn bd v' w' q3 q4
     ·exact hn bd undef w' q3 q4
    ·rename_i g args h' he;simp only[Option.bind_eq_some_iff,Option.some.injEq]at hr;obtain⟨⟨v,h2⟩,hc,rfl⟩:=hr;have zU:=Ez _ _ _ _ hc;obtain⟨args',e,q1,q2⟩:=tW hE hf H he zU;subst e;rw[q2];refine⟨hF.ok n,(B0 μ h' w g args args' v h2 hc q1 H F (n - 1) hF).mono ?_⟩;rintro e w' ⟨v',bd,rfl,k1,k2⟩;exact hn bd v' w' k1 k2
    ·rename_i l args h' he;simp only[Option.bind_eq_some_iff,Option.some.injEq]at hr;obtain⟨⟨v,h2⟩,hc,rfl⟩:=hr;obtain⟨st,p,f0,ps,gS,body,hl,hlen⟩:=EA _ _ _ _ hc;have hh:h'=h:=by
      obtain⟨dst,op,type,pos,after,guard⟩:=o;cases op<;>simp only[dk]at he<;>first|cases he|skip
      all_goals simp only[Option.bind_eq_some_iff,Option.some.injEq,Prod.mk.injEq,aj,reduceCtorEq,false_and,and_false,exists_false]at he
      ·obtain⟨_,_,_,_,he⟩:=he;split at he
       ·split at he<;>simp at he
       ·cases he
      ·obtain⟨_,_,he⟩:=he;split at he
       ·first|(simp at he;done)|(obtain⟨_,_,he⟩:=he;simp at he;done)|(simp only[Option.bind_eq_some_iff]at he;obtain⟨_,_,he⟩:=he;cases he)
       ·try simp only[Option.bind_eq_some_iff]at he
        obtain⟨_,_,he⟩:=he;split at he
        ·simp at he
        ·simp only[Option.some.injEq,Prod.mk.injEq]at he;exact he.2.symm
        ·cases he
       ·cases he
     subst hh;obtain⟨m,args',lo,_,hb,hw,q1,q2,q3⟩:=tY (P:=P) hf H he hl hlen;rw[q2];refine⟨hF.ok n,(Ey μ h' w l args v h2 m f0 ps gS body st p lo.fn _ hc hl hb H (o8 q3 q1) F (n - 1) hF).mono ?_⟩;rintro e w' ⟨v',bd,rfl,k1,k2⟩;exact hn bd v' w' k1 k2
    ·cases hr
def cut (μ:bD) (s:Nat):bD:=fun b=>if b<s then μ b else none
theorem dT {μ:bD} {s b:Nat} {m:MT}:cut μ s b=some m↔b<s∧μ b=some m:=by
 unfold cut;split<;>simp[*]
theorem il {μ bd:bD} (h:μ.le bd) {s t:Nat} (hs:s≤t):(cut μ s).le (cut bd t):=fun b m hb=>by
 have:=dT.1 hb;exact dT.2 ⟨om,h _ _ this.2⟩
theorem Q5 {j4 μ:bD} (h:j4.le μ) {s:Nat} (hd:∀b m,j4 b=some m→b<s):j4.le (cut μ s):=fun b m hb=>dT.2 ⟨hd b m hb,h b m hb⟩
theorem bB.Q6 (H:bB E base B μ h w) {o:eC} (lx:∀cs f dj aS,o= .cells cs f dj aS→f=h.size):bB E base B μ (h.push o) w:=by
 refine⟨fun b m hb=>?_,fun c hc=>?_,fun c m hc=>?_,H.own,fun b1 b2 m1 m2 rW uO hr bC Gu=>?_,fun c m r hc hr=>?_,H.dN,H.low,?_,fun b cs f dj aS hb=>?_,fun c m cs aS hc hg=>?_⟩
 ·have:=H.g8 b m hb;simp only[ah.size_push];omega
 ·simp only[ah.size_push]at hc;rw[ah.al,if_neg om];exact H.high c om
 ·have h1:=H.g8 c m hc;obtain⟨p,p',k1,k2,k3⟩:=H.obj c m hc;exact⟨p,p',by rw[ah.al,if_neg om];exact k1,k2,k3.mono μ.le_refl (by rw[eI H.wf o h1];exact id)⟩
 ·have h1:=H.g8 _ _ rW;have k1:=H.g8 _ _ uO;obtain⟨r,q1,q2,q3⟩:=H.alias b1 b2 m1 m2 rW uO hr bC Gu;exact⟨r,by rw[kb H.wf o h1];exact q1,by rw[kb H.wf o k1];exact q2,by rw[oV o h1,oV o k1];exact q3⟩
 ·rw[kb H.wf o (H.g8 _ _ hc)]at hr;exact H.dQ c m r hc hr
 ·have:=H.mF;simp only[ah.size_push];omega
 ·rw[ah.al]at hb;by_cases e:b=h.size
  ·rw[if_pos e,Option.some.injEq]at hb;have:=lx _ _ _ _ hb;omega
  ·rw[if_neg e]at hb;exact H.wf _ _ _ _ _ hb
 ·have:=H.g8 c m hc;rw[ah.al,if_neg om]at hg;exact H.root c m cs aS hc hg
theorem bB.Mg (H:bB E base B μ h w) {b:Nat} {o:eC} {o':Obj} {m:MT} (hb:b<h.size) (hg:h.get b=some o) (hn:μ b=none) (bG:base≤b) (hB:B≤m.r) (hw:w.heap[m.r]? =some o')
 (Aa:∀c mc,μ c=some mc→mc.r≠m.r) (lx:∀cs f dj aS,o= .cells cs f dj aS→f=b∧b≤dj) (hrt:∀cs aS,o= .cells cs b b aS→m.s=0) (ho:jA (lr μ b m) h base b m o o'):bB E base B (lr μ b m) h w:=by
 have hle:μ.le (lr μ b m):=g9 hn;have mh:∀{c:Nat} {mc:MT},lr μ b m c=some mc→(c=b∧mc=m)∨(c≠b∧μ c=some mc):=by
  intro c mc hc;by_cases e:c=b
  ·subst e;rw[bY]at hc;cases hc;exact .inl ⟨rfl,rfl⟩
  ·rw[qj _ _ e]at hc;exact .inr ⟨e,hc⟩
 refine⟨fun c mc hc=>?_,H.high,fun c mc hc=>?_,fun c mc hc hcb=>?_,fun b1 b2 m1 m2 rW uO hr bC Gu=>?_,fun c mc r hc hr=>?_,fun g ZQ=>?_,H.low,H.mF,H.wf,fun c mc cs aS hc wz=>?_⟩
 ·rcases mh hc with⟨rfl,_⟩|⟨_,h2⟩
  ·exact hb
  ·exact H.g8 _ _ h2
 ·rcases mh hc with⟨rfl,rfl⟩|⟨_,h2⟩
  ·exact⟨o,o',hg,hw,ho⟩
  ·obtain⟨p,p',k1,k2,k3⟩:=H.obj c mc h2;exact⟨p,p',k1,k2,k3.mono hle id⟩
 ·rcases mh hc with⟨rfl,rfl⟩|⟨_,h2⟩
  ·exact hB
  ·exact H.own c mc h2 hcb
 ·rcases mh rW with⟨rfl,rfl⟩|⟨_,h2⟩<;>rcases mh uO with⟨rfl,rfl⟩|⟨_,k2⟩
  ·exact absurd rfl bC
  ·exact absurd hr.symm (Aa _ _ k2)
  ·exact absurd hr (Aa _ _ h2)
  ·exact H.alias b1 b2 m1 m2 h2 k2 hr bC Gu
 ·rcases mh hc with⟨rfl,rfl⟩|⟨_,h2⟩
  ·obtain⟨cs,t,th,h1⟩:=eA hr;obtain⟨c0,h2⟩:=bS hr;rw[hg,Option.some.injEq]at h1;obtain⟨e1,e2⟩:=lx _ _ _ _ h1;rw[e1,hg,h1,Option.some.injEq,eC.cells.injEq]at h2;exact⟨om,om,mc,by rw[e1,bY]⟩
  ·obtain⟨q1,q2,m',q3⟩:=H.dQ c mc r h2 hr;exact⟨q1,q2,m',hle _ _ q3⟩
 ·obtain⟨mc,q1,q2⟩:=H.dN g ZQ;exact⟨mc,hle _ _ q1,q2⟩
 ·rcases mh hc with⟨rfl,rfl⟩|⟨_,h2⟩
  ·rw[hg,Option.some.injEq]at wz;exact hrt cs aS wz
  ·exact H.root c mc cs aS h2 wz
theorem Mh {a b:Value} (h:ka a b=true):a=b:=by
 unfold ka at h;split at h
 ·simpa using h
 ·simp only[Bool.and_eq_true,beq_iff_eq]at h;rw[h.1,h.2]
 ·simp only[beq_iff_eq]at h;exact congrArg _ (ByteArray.ext (Array.ext' h))
 ·simp only[beq_iff_eq]at h;rw[h]
 ·simp only[Bool.and_eq_true,beq_iff_eq,beq_iff]at h;rw[h.1.1,h.1.2,h.2]
 ·simp only[beq_iff_eq]at h;rw[h]
 ·simp only[beq_iff_eq]at h;rw[h]
 ·rfl
 ·rfl
 ·simp only[Bool.and_eq_true,beq_iff_eq,beq_iff]at h;rw[h.1.1,h.1.2,h.2]
 ·simp only[Bool.and_eq_true,beq_iff]at h;obtain⟨⟨⟨⟨h0,h1⟩,h2⟩,h3⟩,h4⟩:=h;rw[h0,Array.eq_empty_of_size_eq_zero h1,Array.eq_empty_of_size_eq_zero h2,Array.eq_empty_of_size_eq_zero h3,Array.eq_empty_of_size_eq_zero h4]
 ·cases h
theorem r8:∀{a b:List Value},gZ a b=true→a=b
 |[],[],_=>rfl
 |x::a,y::b,h=>by
  simp only[gZ,Bool.and_eq_true]at h;rw[Mh h.1,r8 h.2]
 |[],_::_,h=>by simp[gZ]at h
 |_::_,[],h=>by simp[gZ]at h
theorem Q7 {a b:Value} (h:Gt a b=true):a=b:=by
 unfold Gt at h;split at h
 ·rw[Array.ext' (r8 h)]
 ·exact Mh h
theorem EI:∀{a b:List MapEntry},zD a b=true→a=b
 |[],[],_=>rfl
 |x::a,y::b,h=>by
  simp only[zD,Bool.and_eq_true,beq_iff]at h;obtain⟨⟨⟨h1,h2⟩,h3⟩,h4⟩:=h;rw[EI h4];obtain⟨k,v,n⟩:=x;obtain⟨k',v',n'⟩:=y;simp only at h1 h2 h3;rw[Q7 h1,Q7 h2,h3]
 |[],_::_,h=>by simp[zD]at h
 |_::_,[],h=>by simp[zD]at h
theorem J3 {h h':ah} {q:RQ} (hs:gl h h' q=true) (hb:q.dJ<h.size):q.run h'=q.run h:=by
 unfold gl at hs;rw[Bool.or_eq_true]at hs;rcases hs with hs|hs;rotate_left
 ·have:h=h':=of_decide_eq_true (inst:=Classical.propDecidable _) hs;rw[this]
 unfold my at hs;rw[bc.2 hb]at hs;cases q with
 |cells agg b o n=>
  simp only[cond_true]at hs;simp only[RQ.run];split at hs
  ·rename_i l l' h1 h2;rw[h1,h2,r8 hs]
  ·cases hs
 |look r kd k z ok=>
  simp only[cond_true]at hs;simp only[RQ.run];split at hs
  ·rename_i l l' h1 h2;rw[h1,h2];simp only[Option.bind_some];rw[EI hs]
  ·cases hs
 |len r=>
  simp only[cond_true]at hs;simp only[RQ.run];split at hs
  ·rename_i l l' h1 h2;rw[h1,h2];simp only[Option.bind_some];rw[EI hs]
  ·cases hs
theorem Q8 {h:ah} {q:RQ} {o:eC} (hs:tP h q=true) (hb:q.dJ<h.size):q.run (h.push o)=q.run h:=by
 unfold tP at hs;rw[bc.2 hb]at hs;simp only[cond_true]at hs;have hg:(h.push o).get q.dJ=h.get q.dJ:=by rw[ah.al,if_neg om]
 cases q with
 |cells agg b o' n=>
  simp only[RQ.dJ]at hs hb hg;have hf:(h.push o).dQ b=h.dQ b:=by
   unfold ah.dQ;rw[hg];split
   ·rename_i cs f dj aS he;rw[he]at hs;simp only[bc]at hs;rw[ah.al,if_neg om]
   ·rfl
  simp only[RQ.run,ai,ah.rd,hf,ah.cellsOf,hg]
 |look r kd k z ok=>
  simp only[RQ.dJ]at hg;simp only[RQ.run,fj,hg]
 |len r=>
  simp only[RQ.dJ]at hg;simp only[RQ.run,fj,hg]
end
end Go.M
