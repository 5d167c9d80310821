/-
  Part 3 of the library that the proof leans on.
-/
import Derived.Test.YteoljjhhdgplnaaGreatDoorL2
import Derived.Lib.ConvBytes
import Derived.Laws.BytesString
import Derived.RangeFuncLeaves
import Derived.LoopNIn
import Derived.RangeFuncCalls
import Derived.OrdersIn
namespace Go.M
open Go
section
variable {P:Program} {E:Env} {μ:bn} {f:AF} {a:Act} {base B:Nat} {h:ab} {w:World}
theorem CI:∀{l:List Value} {ns:List Int},K5 l=some ns→l=ns.map (Value.int .u8)
 |[],ns,h=>by simp[K5]at h;subst h;rfl
 |v::l,ns,h=>by
  cases v<;>try(simp[K5]at h;done)
  rename_i k n;cases k<;>try(simp[K5]at h;done)
  simp only[K5,Option.bind_eq_some_iff,Option.some.injEq]at h;obtain⟨r,h1,rfl⟩:=h;rw[CI h1];rfl
theorem E6 (ns:List Int):ns.foldl (fun r n=>r.push (UInt8.ofNat n.toNat)) ByteArray.empty=strOf ns:=by
 have key:∀(ns:List Int) (s:ByteArray),ns.foldl (fun r n=>r.push (UInt8.ofNat n.toNat)) s=⟨s.data++(ns.map fun n=>UInt8.ofNat n.toNat).toArray⟩:=by
  intro ns
  induction ns with
  |nil=>intro s;simp
  |cons n ns ih=>
   intro s;rw[List.foldl_cons,ih];simp[ByteArray.push]
 rw[key];unfold strOf;simp[ByteArray.empty,ByteArray.emptyWithCapacity]
 try rfl
theorem ax.scalars {μ:bn} {l l':List Value} (h:ax μ l l'):l.all scalar=true→l=l':=by
 induction h with
 |nil=>intro _;rfl
 |cons h _ ih=>
  intro hs;simp only[List.all_cons,Bool.and_eq_true]at hs;rw[h.ar hs.1,ih hs.2]
theorem AV {d:TypeDesc} (h:ET d=true):d= .int .u8:=by
 unfold ET at h;split at h
 ·rfl
 ·cases h
theorem Step.cX {w':World} (H:bf E base B μ h w) {b:Nat} {m:MT} (hb:μ b=some m) (br:base≤b) {c:Array Value} {e:TypeId} {fr KM:Nat×Nat} (aN:w.heap[m.r]? =some (.cells c e fr)) (hf:oA KM c.size) (hu:AK w m.r (.cells c e KM) w'):Step E base B μ h w μ h w':=by
 refine⟨⟨H.gg,H.high,fun b' m' bL=>?_,H.own,H.alias,H.dA,H.dv,by rw[hu.size];exact H.low,H.l8,H.wf,H.root⟩,⟨hu.tape,hu.os,hu.output,by rw[hu.size];exact Nat.le_refl _,fun r hr hk=>?_⟩,μ.le_refl,(fun c mc h0 hc=>by rw[h0]at hc;cases hc),fun _ _ _=>rfl,Nat.le_refl _⟩
 ·obtain⟨o,o',k1,k2,k3⟩:=H.obj b' m' bL;by_cases er:m'.r=m.r
  ·rw[er,aN]at k2;cases k2;refine⟨o,.cells c e KM,k1,by rw[er,hu.get,if_pos rfl],?_⟩;cases k3 with
   |cells hn hl yz hc=>exact .cells hn hl (fun _=>by rw[←hn];exact hf) hc
   |gO hp hs hc hn=>exact .gO hp hs hc hn
  ·exact⟨o,o',k1,by rw[hu.get,if_neg er];exact k2,k3⟩
 ·rw[hu.get,if_neg];intro e;have:=hk b m hb e.symm;omega
theorem run_mark (w:World) {r:Nat} {off:Nat} {c:Array Value} {e:TypeId} {fr:Nat×Nat} (aN:w.heap[r]? =some (.cells c e fr)) (u8 src:TypeId) (hs:P.underlying src=some (.slice u8)) (he:P.underlying u8=some (.int .u8)) (len cap:Nat):
 ∃w',(convert src src (.slice (some ⟨r,off,none⟩) len cap)).run P w= .ok (.slice (some ⟨r,off,none⟩) len cap) w'∧AK w r (.cells c e (if fr.1==fr.2 then(c.size,c.size+1)else(min fr.1 c.size,max fr.2 (c.size+1)))) w':=by
 have ZZ:w.shape? r=some (e,c.size):=by simp[World.shape?,aN]
 refine⟨w.freeze ⟨r,c.size,none⟩ 1,?_,?_⟩
 ·simp[convert,run_underlying hs,run_underlying he,markStringish,ZZ]
 ·have bF:r<w.heap.size:=(Array.getElem?_eq_some_iff.1 aN).1;refine⟨by simp[World.freeze],by simp[World.freeze],by simp[World.freeze],by simp[World.freeze],fun k=>?_⟩;by_cases ek:k=r
  ·subst ek;rw[if_pos rfl];simp[World.freeze,Array.getElem?_modify,aN]
  ·rw[if_neg ek];simp[World.freeze,Array.getElem?_modify,Ne.symm ek]
theorem Ln (hE:bw P E) (H:bf E base B μ h w) {s d:TypeId} {x x' v:Value} {h':ab} (ha:qt E base h s d x=some (v,h')) (hx:aq μ x x'):jP P E base B μ h w (convert s d x') v h':=by
 unfold qt at ha;simp only[Option.bind_eq_some_iff]at ha;obtain⟨sd,hs,dd,hd,ha⟩:=ha;split at ha
 ·rename_i e str;simp only[Option.bind_eq_some_iff,aj,Option.some.injEq]at ha;obtain⟨ed,he,hu,ha⟩:=ha;cases AV hu;cases hx.ar rfl;have gl:=Lib.run_convert_string_bytes (P:=P) w s d e str (hE.desc s _ hs) (hE.desc d _ hd) (hE.desc e _ he);have fG:(Lib.bytesCells w e str).size=grownCap w str.size 0 e:=by
   have:str.size≤grownCap w str.size 0 e:=by simp[grownCap,Question.cut]
   simp[Lib.bytesCells];have e:str.data.size=str.size:=rfl;omega
  have hle:str.size≤grownCap w str.size 0 e:=by simp[grownCap,Question.cut]
  let N:=grownCap w str.size 0 e
  have eC:Cs w (.cells (Lib.bytesCells w e str) e (N,N+1)) (Lib.bytesWorld w e str):=by
   refine⟨by simp[Lib.bytesWorld,World.freeze,World.alloc,World.drew,-World.alloc_eq,-World.drew_eq],by simp[Lib.bytesWorld,World.freeze,World.alloc,World.drew,-World.alloc_eq,-World.drew_eq],by simp[Lib.bytesWorld,World.freeze,World.alloc,World.drew,-World.alloc_eq,-World.drew_eq],Lib.bytesWorld_size w e str,fun k=>?_⟩;by_cases ek:k=w.heap.size
   ·subst ek;rw[if_pos rfl,Lib.bytesWorld_at_new,fG]
   ·rw[if_neg ek];rcases Nat.lt_or_ge k w.heap.size with h1|h1
    ·exact Lib.bytesWorld_at_old w e str k h1
    ·rw[Array.getElem?_eq_none h1,Array.getElem?_eq_none (by rw[Lib.bytesWorld_size];omega)]
  have td:∀(i:Nat) u,(ft str)[i]? =some u→∃u',(Lib.bytesCells w e str)[i]? =some u'∧∀aS,aq aS u u':=by
   intro i u hu;have hi:=(List.getElem?_eq_some_iff.1 hu).1;refine⟨u,?_,fun aS=>?_⟩
   ·unfold Lib.bytesCells;rw[Array.getElem?_append_left (by simpa[ft]using hi),←Array.getElem?_toList,Array.toList_map];exact hu
   ·simp only[ft,List.getElem?_map,Option.map_eq_some_iff]at hu;obtain⟨b,_,rfl⟩:=hu;exact .int _ _ _
  have st:=Step.alloc H eC N (o:=.cells (ft str) h.size h.size 0) (fun cs f cO aO hh=>by cases hh;exact⟨rfl,rfl⟩) (by
   refine .cells fG (by simp[ft];exact hle) (fun _=>K7 N) fun _ i u hu=>?_;obtain⟨u',q1,q2⟩:=td i u hu;exact⟨u',by simpa using q1,q2 _⟩)
  have e1:fresh h (ft str) 1 str.size=(.slice (some ⟨h.size,0,some 1⟩) str.size (str.size+1),h.push (.cells (ft str) h.size h.size 0)):=rfl;rw[e1]at ha;obtain⟨rfl,rfl⟩:=Prod.mk.inj ha;refine⟨_,_,_,gl,?_,st⟩;have:=aq.slice (o:=0) (z:=1) (len:=str.size) (cap:=str.size+1) (cap':=N) (bO μ h.size ⟨w.heap.size,0,N⟩) om hle (fun h=>by omega) (by simp);simpa using this
 ·rename_i e b o z len cap;simp only[Option.bind_eq_some_iff,aj,Bool.and_eq_true,beq_iff,aG,aR]at ha;obtain⟨ed,he,⟨⟨⟨⟨hu,Y9⟩,br⟩,fW⟩,vo⟩,ha⟩:=ha;cases AV hu;subst Y9;split at ha
  ·rename_i e2;rw[hs]at hd;cases hd;simp only[Option.some.injEq,Prod.mk.injEq]at ha;obtain⟨rfl,rfl⟩:=ha;obtain⟨cs,qa⟩:=Option.isSome_iff_exists.1 fW;generalize hq:Value.slice (some ⟨b,o,some z⟩) len cap=q at hx;cases hx with
   |slice hb k1 k2 k3 k4=>
    cases hq;obtain⟨c,e',fr,q1,q2,q3,q4,q5⟩:=H.read hb qa;obtain⟨w',r1,r2⟩:=run_mark (P:=P) w q1 e s (hE.desc s _ hs) (hE.desc e _ he) _ _;refine⟨μ,_,w',r1,.slice hb k1 k2 k3 k4,Step.cX H hb br q1 ?_ r2⟩;have:=q4 br;rw[←q2]at this;exact this.mark
   |cS hb=>
    cases hq;omega
   |lit hh=>subst hq;simp[ay]at hh
   |_=>cases hq
  ·cases ha
 ·rename_i a len cap;split at ha
  ·rename_i e;simp only[Option.bind_eq_some_iff,aj]at ha;obtain⟨ed,he,hu,ha⟩:=ha;cases AV hu;have conv:=fun(a':Option Addr) (c' l':Nat)=>run_convert_bytes_string (P:=P) w s d e a' l' c' (hE.desc s _ hs) (hE.desc e _ he) (hE.desc d _ hd)
   have fin:∀(ns:List Int) (ad:Addr) (l' c':Nat),x'= .slice (some ad) l' c'→(loadCells ad l').run P w= .ok (ns.map (Value.int .u8)).toArray w→jP P E base B μ h w (convert s d x') (.string (strOf ns)) h:=by
    intro ns ad l' c' ex hld;refine⟨μ,_,w,by rw[ex,conv,run_bytesToString w ad l' c' ns hld,E6],.string μ _,.refl H⟩
   rw[bZ]at ha;split at ha
   ·rename_i h0;rw[beq_iff]at h0;subst h0;simp only[Option.some.injEq,Prod.mk.injEq]at ha;obtain⟨rfl,rfl⟩:=ha;generalize hq:Value.slice a 0 cap=q at hx;cases hx with
    |slice hb k1 k2 k3 k4=>cases hq;exact fin [] _ _ _ rfl (by simp[loadCells,loadCellsFrom])
    |cS hb=>cases hq;exact fin [] _ _ _ rfl (by simp[loadCells,loadCellsFrom])
    |lit hh=>
     subst hq;cases a with
     |none=>exact⟨μ,_,w,by rw[conv];simp[Conv.bytesToString];rfl,.string μ _,.refl H⟩
     |some a=>simp[ay]at hh
    |_=>cases hq
   simp only[Option.bind_eq_some_iff,Option.some.injEq,Prod.mk.injEq]at ha;obtain⟨l,hl,ns,AQ,rfl,rfl⟩:=ha;have el:=CI AQ;unfold fh at hl;split at hl
   ·rename_i b o z Po WC ex;cases ex;generalize hq:Value.slice (some ⟨b,o,some z⟩) len cap=q at hx;cases hx with
    |slice hb k1 k2 k3 k4=>
     rename_i m;cases hq;obtain⟨l',r1,r2⟩:=H.zi hb hl;have vZ:=(H.ae hb hl).1;have e2:l'=ns.map (Value.int .u8):=by
      have:=ax.scalars r1 (by
       rw[el,List.all_eq_true];intro v hv;obtain⟨n,_,rfl⟩:=List.mem_map.1 hv;rfl)
      rw[←el,this]
     refine fin ns _ _ _ rfl ?_;simp only[loadCells];have sY:l'.length=len:=by rw[←r1.length,vZ];omega
     rw[run_loadCells len 0 #[] l' sY (fun k v hv=>by rw[gC];have:=r2 k v hv;simpa[World.cell?]using this)];simp[e2]
    |cS hb=>
     cases hq;have:=yL (by simpa using hl);subst this;simp[K5]at AQ;subst AQ;exact fin [] _ _ _ rfl (by simp[loadCells,loadCellsFrom])
    |lit hh=>subst hq;simp[ay]at hh
    |_=>cases hq
   ·rename_i Po WC ex;cases ex;simp only[Option.some.injEq]at hl;subst hl;simp[K5]at AQ;subst AQ;cases hx with
    |lit hh=>
     refine⟨μ,_,w,by rw[conv];simp[Conv.bytesToString];rfl,.string μ _,.refl H⟩
   ·rename_i ex;cases ex
   ·cases hl
  ·cases ha
 ·cases ha
end
section
variable {P:Program} {E:Env} {μ:bn} {f:AF} {a:Act} {base B:Nat} {h:ab} {w:World}
theorem AW {a b:ByteArray} (h:(a==b)=true):a=b:=by
 rw[beq_toListBytes,ByteArray.toList_eq,ByteArray.toList_eq]at h;have:=eq_of_beq h;obtain⟨⟨x⟩⟩:=a;obtain⟨⟨y⟩⟩:=b;simp at this;rw[this]
def WJ (nx:Next) (v':Value):Prop:=nx= .value v'∨(nx= .skip∧v'=undef)
set_option maxHeartbeats 1000000 in
set_option maxHeartbeats 1000000 in
theorem v5 (hE:bw P E) (hf:cU μ f a.tmps) (H:bf E base B μ h w) {o:Oper} {v:Value} {h':ab} (ha:c7 E base f o h=some (.val v,h')):
 ∃aS nx v' w',(execOp a.eval o).run P w= .ok nx w'∧WJ nx v'∧aq aS v v'∧Step E base B μ h w aS h' w':=by
 have hg:gk E μ:=H.dv;obtain⟨dst,op,type,pos,after,guard⟩:=o;cases op
 case store t x y=>
  simp only[c7,Option.bind_eq_some_iff,aj,Bool.and_eq_true,beq_iff,Option.some.injEq,Prod.mk.injEq,lI.val.injEq]at ha;obtain⟨av,h1,v1,h2,n,h3,p,h4,⟨h5,kA⟩,cs,fW,cs',fH,h6,fI,rfl,rfl⟩:=ha;have e:=kx h4;subst e;obtain⟨m,hb,ex⟩:=(a8 hg hf h1).jZ;have hv:=a8 hg hf h2;obtain⟨w',q1,q2⟩:=tj (P:=P) H hb fW fH fI hv.cells kA;refine⟨μ,.skip,undef,w',?_,.inr ⟨rfl,rfl⟩,.undef μ,q2⟩;have fG:(a.eval y).cells.size=n:=by rw[←hv.vQ];exact h5
  simp only[execOp,Instr.storeAt,Sem.run_bind,ex,Instr.sureAddr,Sem.run_pure,Result.andThen_ok,storeVar,fL hE h3 w];rw[if_neg (by simpa using fG)];simp only[q1,Result.andThen_ok]
 case mapUpdate t mm kk x|insert t mm kk x=>
  simp only[c7,Option.bind_eq_some_iff,Option.some.injEq,Prod.mk.injEq,lI.val.injEq]at ha;obtain⟨mv,h1,k,h2,v1,h3,h4,h5,rfl,rfl⟩:=ha;unfold mV at h5;simp only[Option.bind_eq_some_iff]at h5;obtain⟨d,hd,h5⟩:=h5;split at h5
  ·rename_i kt et r;simp only[Option.bind_eq_some_iff,aj,Bool.and_eq_true,aG]at h5;obtain⟨kd,ir,⟨⟨br,ct⟩,zk⟩,h5⟩:=h5;split at h5
   ·rename_i es clock Lm;obtain⟨m,hb,ex⟩:=(a8 hg hf h1).k9;have ek:=(a8 hg hf h2).ar zk;have hv:=a8 hg hf h3;obtain⟨o1,o2,k1,k2,k3⟩:=H.obj r m hb;rw[Lm]at k1;cases k1;cases k3 with
    |map hs=>
     rename_i bT;simp only[Option.bind_eq_some_iff]at h5;obtain⟨fr,CA,h5⟩:=h5;obtain⟨KM,q1,q2,q3⟩:=jx hs CA;have Cz:(Instr.findKey kt k bT.toList).run P w= .ok KM w:=by
      simp only[Instr.findKey,Sem.run_bind,aC hE ir w,Result.andThen_ok,q1,Sem.run_pure]
     have sX:=ky (P:=P) hE ir ct false 9999 k w;have pz:=run_getObj_map (P:=P) k2 (fun _ _ _=>by simp);have Lk:=fun o=>cd (P:=P) (o:=o) k2 (fun _ _ _=>by simp);have hkr:aq μ k k:=.px μ zk;cases fr with
     |none=>
      have e:=q2 rfl;subst e;simp only[Option.some.injEq]at h5;subst h5;have st:=Step.put (o:=.map (es++[{key:=k,val:=v1,born:=clock}]) (clock+1)) H hb br Lm rfl rfl (AK.set w m.r (.map (bT.push {key:=k,val:=a.eval x,born:=clock}) (clock+1)) (H.lt hb)) (.map (by
       simpa using hs.append (cD.cons (e:={key:=k,val:=v1,born:=clock}) (e':={key:=k,val:=a.eval x,born:=clock}) hkr hv rfl .nil)))
      refine⟨μ,.skip,undef,_,?_,.inr ⟨rfl,rfl⟩,.undef μ,st⟩;simp only[execOp,Instr.mapUpdate,Sem.run_bind,aC hE hd w,Result.andThen_ok,ex,ek,pz,sX,Cz,Lk];rfl
     |some jv=>
      obtain⟨v',e,hr⟩:=q3 jv.1 jv.2 rfl;subst e;simp only[Option.some.injEq]at h5;subst h5;have hsb:Instr.sameBits 10000 (((bT[jv.1]?).map (·.key)).getD k) k=true:=by
       have hh:∀{es:List MapEntry} {i j:Nat} {v:Value},Instr.findNow kd k es i=some (some (j,v))→∃e,es[j - i]? =some e∧e.key=k∧i≤j:=by
        intro es
        induction es with
        |nil=>intro i j v hq;simp[Instr.findNow]at hq
        |cons e0 es0 ih=>
         intro i j v hq;simp only[Instr.findNow]at hq;split at hq
         ·rename_i Hb;simp only[Option.some.injEq,Prod.mk.injEq]at hq;obtain⟨rfl,_⟩:=hq;refine⟨e0,by simp,?_,Nat.le_refl _⟩;unfold Instr.sameNow at Hb;split at Hb
          ·rename_i z1;split at Hb
           ·rename_i z2;subst z2;simp only[Option.some.injEq,beq_iff_eq]at Hb;rw[z1,Hb]
           ·cases Hb
          ·rename_i z1;simp only[Option.some.injEq]at Hb;rw[z1,AW Hb]
          ·rename_i z1;simp only[Option.some.injEq,beq_iff_eq]at Hb;rw[z1,Hb]
          ·cases Hb
         ·obtain⟨e1,p1,p2,p3⟩:=ih hq;refine⟨e1,?_,p2,om⟩;have:j - i=(j - (i+1))+1:=by omega
          rw[this];simpa using p1
         ·cases hq
       obtain⟨e1,p1,p2,_⟩:=hh q1;have p1':bT[jv.1]? =some e1:=by simpa using p1
       rw[p1'];simp only[Option.map_some,Option.getD_some,p2];cases k<;>simp[scalar]at zk<;>first|(simp[Instr.sameBits];done)|(simp only[Instr.sameBits];rw[beq_toListBytes];simp)
      have st:=Step.put (o:=.map (es.modify jv.1 fun e=>{e with key:=k,val:=v1}) clock) H hb br Lm rfl rfl (AK.set w m.r (.map (bT.modify jv.1 fun e=>{e with key:=k,val:=a.eval x}) clock) (H.lt hb)) (.map (by
       have:=hs.modify (g:=fun e=>{e with key:=k,val:=v1}) (g':=fun e=>{e with key:=k,val:=a.eval x}) (fun e e' _ _ hb=>⟨hkr,hv,hb⟩) jv.1;simpa using this))
      refine⟨μ,.skip,undef,_,?_,.inr ⟨rfl,rfl⟩,.undef μ,st⟩;simp only[execOp,Instr.mapUpdate,Sem.run_bind,aC hE hd w,Result.andThen_ok,ex,ek,pz,sX,Cz];unfold Instr.keyThatStays;rw[hsb];simp only[if_true,Sem.run_pure,Result.andThen_ok,Lk]
   ·cases h5
  ·cases h5
 case range t x=>
  simp only[c7,Option.bind_eq_some_iff]at ha;obtain⟨d,hd,v1,h1,ha⟩:=ha;split at ha
  ·rename_i kt et r;split at ha
   ·rename_i es clock Lm;simp only[Option.some.injEq,Prod.mk.injEq,lI.val.injEq]at ha;obtain⟨rfl,rfl⟩:=ha;obtain⟨m,hb,ex⟩:=(a8 hg hf h1).k9;obtain⟨o1,o2,k1,k2,k3⟩:=H.obj r m hb;rw[Lm]at k1;cases k1;cases k3 with
    |map hs=>
     have pz:=run_getObj_map (P:=P) k2 (fun _ _ _=>by simp);have hle:μ.le (kl μ h.size ⟨w.heap.size,0,0⟩):=gh H.fresh;have st:=Step.alloc (o:=.cy (some r) clock [] clock) H (Cs.mk' w (.mapIter (some m.r) clock #[] clock)) 0 (fun _ _ _ _ hh=>by cases hh) (by
      have:=iM.cy (μ:=kl μ h.size ⟨w.heap.size,0,0⟩) (h:=h.push (.cy (some r) clock [] clock)) (base:=base) (b:=h.size) (m:=⟨w.heap.size,0,0⟩) (since:=clock) (last:=clock) (seen:=[]) (hle _ _ hb) rfl;simpa using this)
     refine⟨_,_,.pointer (some ⟨w.heap.size,0,none⟩),_,?_,.inl rfl,?_,st⟩
     ·simp only[execOp,Instr.range,Sem.run_bind,aC hE hd w,Result.andThen_ok,ex,pz,Sem.run_pure,run_newObj]
     ·have:=aq.ptr (o:=0) (bO μ h.size ⟨w.heap.size,0,0⟩);simpa using this
   ·cases ha
  ·cases ha
 case convert sT d x=>
  simp only[c7,Option.bind_eq_some_iff,Option.some.injEq,Prod.mk.injEq,lI.val.injEq]at ha;obtain⟨v1,h1,⟨v2,Ru⟩,h3,rfl,rfl⟩:=ha;obtain⟨aS,v',w',q1,q2,q3⟩:=Ln (P:=P) hE H h3 (a8 hg hf h1);refine⟨aS,.value v',v',w',?_,.inl rfl,q2,q3⟩;simp only[execOp,Sem.run_bind,q1,Result.andThen_ok,Sem.run_pure]
 case next it isStr=>
  simp only[c7,Option.bind_eq_some_iff,Option.some.injEq,Prod.mk.injEq,lI.val.injEq]at ha;obtain⟨v1,h1,r,h2,⟨v2,Ru⟩,h3,rfl,rfl⟩:=ha;have e:=oJ h2;subst e;obtain⟨m,hb,ex⟩:=(a8 hg hf h1).jZ;have ju:m.s=0:=by
   obtain⟨o1,o2,k1,k2,k3⟩:=H.obj r m hb;unfold GX at h3;simp only[aj]at h3;cases k3 with
   |iQ hs=>exact hs
   |lK hs=>exact hs
   |cy _ hs=>exact hs
   |_=>rw[k1]at h3;simp at h3
  obtain⟨aS,v',w',q1,q2,q3⟩:=Ll (P:=P) H type h3 hb;refine⟨aS,.value v',v',w',?_,.inl rfl,q2,q3⟩;rw[ju]at ex;simp only[execOp,Sem.run_bind,ex,q1,Result.andThen_ok,Sem.run_pure]
 case entry it=>
  simp only[c7,Option.bind_eq_some_iff,Option.some.injEq,Prod.mk.injEq,lI.val.injEq]at ha;obtain⟨v1,h1,r,h2,v2,h3,rfl,rfl⟩:=ha;have e:=oJ h2;subst e;obtain⟨m,hb,ex⟩:=(a8 hg hf h1).jZ;have ju:m.s=0:=by
   obtain⟨o1,o2,k1,k2,k3⟩:=H.obj r m hb;unfold oy at h3;cases k3 with
   |iQ hs=>exact hs
   |lK hs=>exact hs
   |cy _ hs=>exact hs
   |_=>rw[k1]at h3;simp at h3
  obtain⟨v',q1,q2⟩:=IP (P:=P) H h3 hb;refine⟨μ,.value v',v',w,?_,.inl rfl,q1,.refl H⟩;rw[ju]at ex;simp only[execOp,Sem.run_bind,ex,q2,Result.andThen_ok,Sem.run_pure]
 case call c=>
  simp only[c7,Option.bind_eq_some_iff]at ha;obtain⟨args,h1,ha⟩:=ha;have hr:=j6 hg hf h1;split at ha
  ·rename_i b AT;simp only[Option.bind_eq_some_iff,Option.some.injEq,Prod.mk.injEq,lI.val.injEq]at ha;obtain⟨⟨v1,yu⟩,h2,rfl,rfl⟩:=ha;obtain⟨s,⟨aS,v',w',q1,q2,q3⟩,hs⟩:=E4 hE H (ts:=c.argTypes) (args':=c.args.map a.eval) type h2 (by simpa using hr);refine⟨aS,.value v',v',w',?_,.inl rfl,q2,q3⟩;simp only[execOp,resolve,AT,Sem.run_bind,Sem.run_pure,Result.andThen_ok,invoke];rw[hs _];simp only[Sem.run_bind,q1,Result.andThen_ok,Sem.run_pure]
  ·simp only[Option.bind_eq_some_iff]at ha;obtain⟨g,_,ha⟩:=ha;split at ha<;>simp at ha
  ·cases ha
 all_goals(simp only[c7]at ha;cases ha)
theorem qC (hE:bw P E) (hf:cU μ f a.tmps) (H:bf E base B μ h w) {o:Oper} {g:FuncId} {args:List Value} {h':ab} (ha:c7 E base f o h=some (.enter g args,h')) (v7:(E.func g).isSome=true):
 ∃args':Array Value,h'=h∧ax μ args args'.toList∧(execOp a.eval o).run P w= .ok (.enter g args') w:=by
 have hg:gk E μ:=H.dv;obtain⟨dst,op,type,pos,after,guard⟩:=o;cases op
 case call c=>
  simp only[c7,Option.bind_eq_some_iff]at ha;obtain⟨asv,h1,ha⟩:=ha;have hr:=j6 hg hf h1;split at ha
  ·simp only[Option.bind_eq_some_iff,Option.some.injEq,Prod.mk.injEq]at ha;obtain⟨_,_,h2,_⟩:=ha;cases h2
  ·rename_i gx AT;simp only[Option.bind_eq_some_iff]at ha;obtain⟨gv,h2,ha⟩:=ha;split at ha
   ·rename_i gid first captured
    simp only[Option.some.injEq,Prod.mk.injEq,lI.enter.injEq]at ha;obtain⟨⟨rfl,rfl⟩,rfl⟩:=ha;have yA:=a8 hg hf h2;generalize hq:a.eval gx=q at yA;cases yA with
    |lit hh=>simp[ay]at hh
    |func q1 q2 q3 q4=>
     rename_i qD iU;refine⟨qD++c.args.map a.eval++iU,rfl,?_,?_⟩
     ·simp only[Array.toList_append,Array.toList_map];exact((ax.mX q1 q2).append hr).append (ax.mX q3 q4)
     ·obtain⟨fn,WK⟩:=Option.isSome_iff_exists.1 v7;obtain⟨f1,f2,f3⟩:=hE.func _ _ WK;have hb:fn.body.isNone=false:=by cases hx:fn.body<;>simp_all
      simp only[execOp,resolve,AT,Sem.run_bind,Sem.run_pure,Result.andThen_ok,hq,Deferred.ofValue,invoke,callFunc,run_program,f1,f3,hb,Bool.false_eq_true,if_false]
   ·simp at ha
   ·cases ha
  ·cases ha
 all_goals(simp only[c7]at ha;first|cases ha|(simp only[Option.bind_eq_some_iff,Option.some.injEq,Prod.mk.injEq,aj,reduceCtorEq,false_and,and_false,exists_false]at ha)|skip)
 case range t x=>
  obtain⟨_,_,_,_,ha⟩:=ha;split at ha
  ·split at ha<;>simp at ha
  ·cases ha
theorem qE (hf:cU μ f a.tmps) (H:bf E base B μ h w) {o:Oper} {l:Nat} {args:List Value} {h':ab} (ha:c7 E base f o h=some (.round l args,h')) {st:LoopState} {p:Option Code} {f0:AF} {ps:List Tmp} {iL body:Code}
 (hl:h.get l=some (.loop st p f0 ps iL body)) (hlen:ps.length=args.length):
 ∃(m:MT) (args':List Value) (lo:Loop),h'=h∧μ l=some m∧w.heap[m.r]? =some (.loop lo)∧ax μ args args'∧
  (execOp a.eval o).run P w= .ok (.round m.r lo.fn ((ps.zip args').foldl (fun tmps (t,a)=>tmps.setIfInBounds t a) lo.tmps) iL body) w∧cU μ f0 lo.tmps:=by
 have hg:gk E μ:=H.dv;obtain⟨dst,op,type,pos,after,guard⟩:=o;cases op
 case call c=>
  simp only[c7,Option.bind_eq_some_iff]at ha;obtain⟨asv,h1,ha⟩:=ha;have hr:=j6 hg hf h1;split at ha
  ·simp only[Option.bind_eq_some_iff,Option.some.injEq,Prod.mk.injEq]at ha;obtain⟨_,_,h2,_⟩:=ha;cases h2
  ·rename_i gx AT;simp only[Option.bind_eq_some_iff]at ha;obtain⟨gv,h2,ha⟩:=ha;split at ha
   ·simp at ha
   ·rename_i l0 first captured
    simp only[Option.some.injEq,Prod.mk.injEq,lI.round.injEq]at ha;obtain⟨⟨rfl,rfl⟩,rfl⟩:=ha;have yA:=a8 hg hf h2;generalize hq:a.eval gx=q at yA;cases yA with
    |lit hh=>simp[ay]at hh
    |yield hb=>
     rename_i m;obtain⟨o1,o2,k1,k2,k3⟩:=H.obj l0 m hb;rw[hl]at k1;cases k1;cases k3 with
     |loop CA=>
      rename_i fn tmps d;have pz:=run_getObj_map (P:=P) k2 (fun _ _ _=>by simp);refine⟨m,c.args.toList.map a.eval,_,rfl,hb,k2,by simpa using hr,?_,CA⟩;have sY:=hr.length;have fG:(c.args.map a.eval).size=ps.toArray.size:=by
       simp at hlen sY ⊢;omega
      simp only[execOp,resolve,AT,Sem.run_bind,Sem.run_pure,Result.andThen_ok,hq,Deferred.ofValue,invoke,Instr.yield,Instr.getLoop,pz];rw[if_neg (by simpa using fG)];have ez:(ps.toArray.zip (#[]++c.args.map a.eval))=(ps.zip (c.args.toList.map a.eval)).toArray:=by
       apply Array.ext';simp
      simp only[ez,Sem.run_pure,List.foldl_toArray]
   ·cases ha
  ·cases ha
 all_goals(simp only[c7]at ha;first|cases ha|(simp only[Option.bind_eq_some_iff,Option.some.injEq,Prod.mk.injEq,aj,reduceCtorEq,false_and,and_false,exists_false]at ha)|skip)
 case range t x=>
  obtain⟨_,_,_,_,ha⟩:=ha;split at ha
  ·split at ha<;>simp at ha
  ·cases ha
end
structure gV (F:Fence):Prop where
 fn:∀f,F.fn f
 depth:F.depth=none
 dead:F.alive=false
theorem gV.inRound {F:Fence} (h:gV F) (l:Nat):gV (F.inRound l):=⟨h.fn,h.depth,h.dead⟩
theorem gV.plain {F:Fence} (h:gV F):gV F.plain:=⟨h.fn,h.depth,h.dead⟩
theorem gV.wide:gV Fence.wide:=⟨fun _=>trivial,rfl,rfl⟩
theorem gV.ok {F:Fence} (h:gV F) (n:Nat):F.depth.isSome=true→1≤n:=by rw[h.depth];intro h;simp at h
def m7 (E:Env) (base B:Nat) (μ:bn) (h:ab) (w:World) (v:Value) (h':ab):Ending→World→Prop:=
 fun e w'=>∃v' aS,e= .returned v'∧aq aS v v'∧Step E base B μ h w aS h' w'
def jQ (P:Program) (E:Env) (base B:Nat) (cf:fD):Prop:=
 ∀(μ:bn) (h:ab) (w:World) (g:FuncId) (args:List Value) (args':Array Value) (v:Value) (h':ab),cf g args h=some (v,h')→ax μ args args'.toList→bf E base B μ h w→
  ∀(F:Fence) (n:Nat),gV F→CallsIn F n P g args' w (m7 E base B μ h w v h')
def m8 (P:Program) (E:Env) (base B:Nat) (rf:eP):Prop:=
 ∀(μ:bn) (h:ab) (w:World) (l:Nat) (args:List Value) (v:Value) (h':ab) (m:MT) (f0:AF) (ps:List Tmp) (iL body:Code) (st:LoopState) (p:Option Code) (fn:FuncId) (tmps:Array Value),
  rf l args h=some (v,h')→h.get l=some (.loop st p f0 ps iL body)→μ l=some m→bf E base B μ h w→cU μ (AF.jM (ps.zip args) f0) tmps→
  ∀(F:Fence) (n:Nat),gV F→RoundIn F n P m.r fn tmps iL body w (m7 E base B μ h w v h')
def m9 (E:Env) (cf:fD):Prop:=∀g args h r,cf g args h=some r→(E.func g).isSome=true
def kB (rf:eP):Prop:=∀l args h r,rf l args h=some r→∃st p f0 ps iL body,h.get l=some (.loop st p f0 ps iL body)∧ps.length=args.length
section
variable {P:Program} {E:Env} {μ:bn} {f:AF} {a:Act} {base B:Nat} {h:ab} {w:World} {cf:fD} {rf:eP}
theorem na {μ:bn}:∀{ps:List Tmp} {args args':List Value} {f:AF} {tmps:Array Value},cU μ f tmps→ax μ args args'→cU μ (AF.jM (ps.zip args) f) ((ps.zip args').foldl (fun tmps (t,a)=>tmps.setIfInBounds t a) tmps)
 |[],args,args',f,tmps,hf,_=>by simpa[AF.jM]using hf
 |p::ps,_,_,f,tmps,hf,.nil=>by simpa[AF.jM]using hf
 |p::ps,_,_,f,tmps,hf,.cons hv ht=>by
  simp only[List.zip_cons_cons,AF.jM,List.foldl_cons];exact na (hf.set hv p) ht
theorem AX {o:Oper} {r:SQ} (h:eL E base cf rf o f h=some r):∀c,o.op≠ .defer c:=by
 intro c hc;unfold eL at h;simp only[aI,bG,bc,c7,hc]at h;cases h
theorem Tg (hE:bw P E) (yO:jQ P E base B cf) (AY:m8 P E base B rf) (AZ:m9 E cf) (A0:kB rf) {F:Fence} (hF:gV F) {n:Nat} (hf:cU μ f a.tmps) (H:bf E base B μ h w) {o:Oper} {r:SQ} (hr:eL E base cf rf o f h=some r)
 {next:Act→World→Prop} {Q:Exit→Act→World→Prop} (hn:∀aS v' w',aq aS r.v v'→Step E base B μ h w aS r.h w'→next (a.put o.dst v') w'):o.wpIn F n P a w next Q:=by
 have hg:gk E μ:=H.dv;refine⟨fun _ _=>hF.fn _,?_⟩;rw[Oper.semAt_eq _ _ _ (AX hr)];unfold eL at hr;split at hr
 ·rename_i v hp;simp only[Option.some.injEq]at hr;subst hr;obtain⟨v',q1,q2⟩:=py hE hg hf hp;rw[q2 w];exact hn μ v' w q1 (.refl H)
 ·split at hr
  ·rename_i q hq;simp only[Option.bind_eq_some_iff,Option.some.injEq]at hr;obtain⟨v,hv,rfl⟩:=hr;obtain⟨v',q1,q2⟩:=tf hE hf H hq hv;rw[q2];exact hn μ v' w q1 (.refl H)
  ·split at hr
   ·rename_i md hd eC;simp only[Option.some.injEq]at hr;subst hr;obtain⟨o',k,hv,S⟩:=m3 hE hg hf eC;rw[S.run w];have st:=Step.alloc (o:=md.obj h.size) H (Cs.mk' w o') k (fun cs f cO aO hh=>by cases md<;>simp[Made.obj]at hh;exact⟨hh.2.1.symm,hh.2.2.1.symm⟩) (S.obj _ _ _ _ _ (gh H.fresh));exact hn _ _ _ (S.val _ _ _ (bO _ _ _)) st
   ·split at hr
    ·rename_i v h' he;simp only[Option.some.injEq]at hr;subst hr;obtain⟨aS,nx,v',w',q1,q2,q3,q4⟩:=v5 hE hf H he;rw[q1];rcases q2 with rfl |⟨rfl,rfl⟩
     ·exact hn aS v' w' q3 q4
     ·exact hn aS undef w' q3 q4
    ·rename_i g args h' he;simp only[Option.bind_eq_some_iff,Option.some.injEq]at hr;obtain⟨⟨v,h2⟩,hc,rfl⟩:=hr;have v7:=AZ _ _ _ _ hc;obtain⟨args',e,q1,q2⟩:=qC hE hf H he v7;subst e;rw[q2];refine⟨hF.ok n,(yO μ h' w g args args' v h2 hc q1 H F (n - 1) hF).mono ?_⟩;rintro e w' ⟨v',aS,rfl,k1,k2⟩;exact hn aS v' w' k1 k2
    ·rename_i l args h' he;simp only[Option.bind_eq_some_iff,Option.some.injEq]at hr;obtain⟨⟨v,h2⟩,hc,rfl⟩:=hr;obtain⟨st,p,f0,ps,iL,body,hl,hlen⟩:=A0 _ _ _ _ hc;have hh:h'=h:=by
      obtain⟨dst,op,type,pos,after,guard⟩:=o;cases op<;>simp only[c7]at he<;>first|cases he|skip
      all_goals simp only[Option.bind_eq_some_iff,Option.some.injEq,Prod.mk.injEq,aj,reduceCtorEq,false_and,and_false,exists_false]at he
      ·obtain⟨_,_,_,_,he⟩:=he;split at he
       ·split at he<;>simp at he
       ·cases he
      ·obtain⟨_,_,he⟩:=he;split at he
       ·first|(simp at he;done)|(obtain⟨_,_,he⟩:=he;simp at he;done)|(simp only[Option.bind_eq_some_iff]at he;obtain⟨_,_,he⟩:=he;cases he)
       ·try simp only[Option.bind_eq_some_iff]at he
        obtain⟨_,_,he⟩:=he;split at he
        ·simp at he
        ·simp only[Option.some.injEq,Prod.mk.injEq]at he;exact he.2.symm
        ·cases he
       ·cases he
     subst hh;obtain⟨m,args',lo,_,hb,hw,q1,q2,q3⟩:=qE (P:=P) hf H he hl hlen;rw[q2];refine⟨hF.ok n,(AY μ h' w l args v h2 m f0 ps iL body st p lo.fn _ hc hl hb H (na q3 q1) F (n - 1) hF).mono ?_⟩;rintro e w' ⟨v',aS,rfl,k1,k2⟩;exact hn aS v' w' k1 k2
    ·cases hr
theorem qF {ops:Array Oper} (hf:cU μ f a.tmps) (o:Oper):Region.wanted o (yielded ops a.tmps)=wanted ops.toList o f:=by
 unfold Region.wanted wanted;cases hgd:o.guard with
 |none=>rfl
 |some jw=>
  obtain⟨j,want⟩:=jw;simp only
  unfold yielded;have e:ops.toList[j]? =ops[j]? :=by simp
  rw[e];cases ht:(ops[j]?).bind (·.dst)with
  |none=>simp
  |some t=>
   simp only[Option.bind_some];have hv:=hf.get t;by_cases bF:t<a.tmps.size
   ·have e2:a.tmps.getD t undef=a.tmps[t]:=by simp[bF]
    rw[e2]at hv;rw[Array.getElem?_eq_getElem bF];generalize a.tmps[t]=u at hv;generalize f.get t=c at hv;cases hv with
    |lit hh=>cases u<;>simp
    |AH hh=>rcases hh with rfl |⟨_,_,rfl⟩<;>rfl
    |_=>rfl
   ·have e2:a.tmps.getD t undef=undef:=by simp[bF]
    rw[e2]at hv;have e3:a.tmps[t]? =none:=Array.getElem?_eq_none (Nat.le_of_not_lt bF);rw[e3];generalize f.get t=c at hv;unfold undef at hv;cases hv with
    |lit hh=>simp[ay]at hh
    |AH hh=>rcases hh with hh|⟨_,_,hh⟩<;>cases hh
    |tuple _ _=>rfl
theorem A5 (hE:bw P E) (yO:jQ P E base B cf) (AY:m8 P E base B rf) (AZ:m9 E cf) (A0:kB rf) {F:Fence} (hF:gV F) {n:Nat} {ops:Array Oper} {Q:Exit→Act→World→Prop}:∀(rest:List Oper) (k:Nat) (μ:bn) (f:AF) (h:ab) (a:Act) (w:World) (f':AF) (h':ab),
 (∀j,rest[j]? =ops[k+j]?)→u4 E base cf rf ops.toList rest f h=some (f',h')→cU μ f a.tmps→bf E base B μ h w→
 (∀aS a' w',cU aS f' a'.tmps→a'.defers=a.defers→Step E base B μ h w aS h' w'→Q .normal a' w')→wpOpsIn F n P ops Q (List.range' k rest.length) a w
 |[],k,μ,f,h,a,w,f',h',_,ha,hf,H,hQ=>by
  simp only[u4,Option.some.injEq,Prod.mk.injEq]at ha;obtain⟨rfl,rfl⟩:=ha;exact hQ μ a w hf rfl (.refl H)
 |o::rest,k,μ,f,h,a,w,f',h',hk,ha,hf,H,hQ=>by
  have h0:ops[k]? =some o:=by simpa using(hk 0).symm
  have oK:∀j,rest[j]? =ops[k+1+j]? :=fun j=>by have:=hk (j+1);simpa[Nat.add_assoc,Nat.add_comm 1 j]using this
  simp only[List.length_cons,List.range'_succ,wpOpsIn,h0,qF hf];simp only[u4]at ha;split at ha
  ·rename_i hw;rw[if_pos hw];simp only[Option.bind_eq_some_iff]at ha;obtain⟨r,hr,ha⟩:=ha;refine Tg hE yO AY AZ A0 hF hf H hr fun aS v' w' q1 q2=>?_;refine A5 hE yO AY AZ A0 hF rest (k+1) aS (f.put o.dst r.v) r.h _ w' f' h' oK ha ((hf.mono q2.le).put q1 o.dst) q2.rel fun uq a2 w2 p1 p2 p3=>?_;exact hQ uq a2 w2 p1 (by rw[p2];cases o.dst<;>rfl) (q2.trans p3)
  ·rename_i hw;rw[if_neg (by rw[hw];simp)];refine⟨fun _ _=>hF.fn _,?_⟩;refine A5 hE yO AY AZ A0 hF rest (k+1) μ (f.put o.dst undef) h _ w f' h' oK ha (hf.put (.undef μ) o.dst) H fun uq a2 w2 p1 p2 p3=>?_;exact hQ uq a2 w2 p1 (by rw[p2];cases o.dst<;>rfl) p3
end
def oL:Ex→Exit
 | .normal=>.normal
 | .exit id=>.exit id
 | .ret=>.ret
structure tu (W0:Nat) (μ:bn) (w:World) (d:Deferred) (r:Nat):Prop where
 tg:d.target= .collected r
 obj:w.heap[r]? =some (.deferred (some []))
 apart:∀b m,μ b=some m→m.r≠r
 new:W0≤r
inductive bW (W0:Nat) (μ:bn) (w:World):List Deferred→List Nat→Prop
 |nil:bW W0 μ w [] []
 |cons {d:Deferred} {r:Nat} {ds:List Deferred} {rs:List Nat} (h:tu W0 μ w d r) (hn:r∉rs) (t:bW W0 μ w ds rs):bW W0 μ w (d::ds) (r::rs)
section
variable {P:Program} {E:Env} {base B:Nat}
theorem tu.step {W0:Nat} {μ aS:bn} {h h':ab} {w w':World} {d:Deferred} {r:Nat} (k:tu W0 μ w d r) (s:Step E base B μ h w aS h' w'):tu W0 aS w' d r:=by
 have bF:r<w.heap.size:=(Array.getElem?_eq_some_iff.1 k.obj).1;refine⟨k.tg,?_,?_,k.new⟩
 ·rw[s.grow.bk r bF (fun b m hb hr=>absurd hr (k.apart b m hb))];exact k.obj
 ·intro b m hb hr;cases h0:μ b with
  |some m0=>
   have:=s.le b m0 h0;rw[hb]at this;cases this;exact k.apart b m h0 hr
  |none=>
   obtain⟨_,_,h3⟩:=s.new b m h0 hb;rcases h3 with h3|⟨b0,m0,_,h4,h5⟩
   ·omega
   ·exact k.apart b0 m0 h4 (h5.trans hr)
theorem bW.step {W0:Nat} {μ aS:bn} {h h':ab} {w w':World} {ds:List Deferred} {rs:List Nat} (k:bW W0 μ w ds rs) (s:Step E base B μ h w aS h' w'):bW W0 aS w' ds rs:=by
 induction k with
 |nil=>exact .nil
 |cons h hn _ ih=>exact .cons (h.step s) hn ih
theorem bf.apart {μ:bn} {h:ab} {w w':World} (H:bf E base B μ h w) {r:Nat} {o:Obj} (hu:AK w r o w') (ha:∀b m,μ b=some m→m.r≠r):bf E base B μ h w':=
 ⟨H.gg,H.high,fun b m hb=>by
  obtain⟨p,p',k1,k2,k3⟩:=H.obj b m hb;exact⟨p,p',k1,by rw[hu.get,if_neg (ha b m hb)];exact k2,k3⟩,H.own,H.alias,H.dA,H.dv,by rw[hu.size];exact H.low,H.l8,H.wf,H.root⟩
theorem Step.apart {μ aS:bn} {h h':ab} {w w1 w2:World} (s:Step E base B μ h w aS h' w1) {r:Nat} {o:Obj} (hu:AK w1 r o w2) (ha:∀b m,aS b=some m→m.r≠r) (hn:w.heap.size≤r):Step E base B μ h w aS h' w2:=
 ⟨s.rel.apart hu ha,⟨hu.tape.trans s.grow.tape,hu.os.trans s.grow.os,hu.output.trans s.grow.output,by rw[hu.size];exact s.grow.size,fun k hk hh=>by rw[hu.get,if_neg om];exact s.grow.bk k hk hh⟩,s.le,s.new,s.GZ,s.fG⟩
theorem bf.Z0 {μ:bn} {h:ab} {w w':World} (H:bf E base B μ h w) {o:Obj} (ha:Cs w o w'):bf E base B μ h w':=
 ⟨H.gg,H.high,fun b m hb=>by
  obtain⟨p,p',k1,k2,k3⟩:=H.obj b m hb;have:=H.lt hb;exact⟨p,p',k1,by rw[ha.get,if_neg om];exact k2,k3⟩,H.own,H.alias,H.dA,H.dv,by rw[ha.size];have:=H.low;omega,H.l8,H.wf,H.root⟩
theorem Step.WL {μ:bn} {h:ab} {w w':World} (H:bf E base B μ h w) {o:Obj} (ha:Cs w o w'):Step E base B μ h w μ h w':=
 ⟨H.Z0 ha,⟨ha.tape,ha.os,ha.output,by rw[ha.size];omega,fun r hr _=>by rw[ha.get,if_neg om]⟩,μ.le_refl,fun b m h0 h1=>by simp[h0]at h1,fun _ _ _=>rfl,Nat.le_refl _⟩
theorem ux (hE:bw P E) {μ:bn} {f:AF} {h:ab} {w:World} {tmps:Array Value} {fn:Func} {vs:List Value} (hf:cU μ f tmps) (H:bf E base B μ h w) (hr:dg E h f fn.results.toList=some vs):
 ∃v',(results fn tmps).run P w= .ok v' w∧aq μ (cQ vs) v':=by
 have key:∀(l:List ResultVar) (vs:List Value),dg E h f l=some vs→∃mZ,ax μ vs mZ∧(l.mapM (m:=Sem) fun
  | .tmp t=>pure (tmps.getD t undef)
  | .cell a t=>do loadVar t (←asAddr (tmps.getD a undef))).run P w= .ok mZ w:=by
  intro l
  induction l with
  |nil=>intro vs hv;simp only[dg,Option.some.injEq]at hv;subst hv;exact⟨[],.nil,by simp⟩
  |cons x l ih=>
   intro vs hv;cases x with
   |tmp t=>
    simp only[dg,Option.bind_eq_some_iff,Option.some.injEq]at hv;obtain⟨Z1,h1,rfl⟩:=hv;obtain⟨mZ,r1,r2⟩:=ih Z1 h1;exact⟨tmps.getD t undef::mZ,.cons (hf.get t) r1,by simp only[List.mapM_cons,Sem.run_bind,Sem.run_pure,Result.andThen_ok,r2]⟩
   |cell a t=>
    simp only[dg,Option.bind_eq_some_iff,Option.some.injEq]at hv;obtain⟨p,h1,⟨ag,n⟩,h2,c,h3,v,h4,Z1,h5,rfl⟩:=hv;have ha:=hf.get a;rw[kx h1]at ha;obtain⟨m,hb,ex⟩:=ha.jZ;obtain⟨l',r1,r2⟩:=H.zi hb h3;obtain⟨v',q1,q2⟩:=ji h4 r1;have hl:l'.length=n:=by rw[←r1.length];exact(H.ae hb h3).1
    obtain⟨mZ,s1,s2⟩:=ih Z1 h5;refine⟨v'::mZ,.cons q2 s1,?_⟩;have lv:=oH (P:=P) hE h2 hl r2 q1;have Z2:(asAddr (tmps.getD a undef)).run P w= .ok ⟨m.r,m.s+p.2,none⟩ w:=by rw[ex];rfl
    rw[List.mapM_cons];simp only[Sem.run_bind,Z2,Sem.run_pure,Result.andThen_ok,lv];rw[s2];rfl
 obtain⟨mZ,r1,r2⟩:=key _ _ hr
 have hm:(fn.results.mapM (m:=Sem) fun
  | .tmp t=>pure (tmps.getD t undef)
  | .cell a t=>do loadVar t (←asAddr (tmps.getD a undef))).run P w= .ok mZ.toArray w:=by
  rw[Array.mapM_eq_mapM_toList];simp only[Sem.run_map,r2,Result.andThen_ok]
 have E7:(results fn tmps).run P w= .ok (if h:mZ.toArray.size=1 then mZ.toArray[0]else .tuple mZ.toArray) w:=by
  show Sem.run P (do
   let us ←fn.results.mapM (m:=Sem) fun
    | .tmp t=>pure (tmps.getD t undef)
    | .cell a t=>do loadVar t (←asAddr (tmps.getD a undef))
   pure (if h:us.size=1 then us[0]else .tuple us)) w=_
  rw[Sem.run_bind,hm];rfl
 refine⟨_,E7,?_⟩;cases r1 with
 |nil=>exact .dC (by simpa using ax.nil)
 |cons hv ht=>cases ht with
  |nil=>simpa[cQ]using hv
  |cons Hc ht=>simp only[cQ];exact .dC (by simpa using ax.cons hv (.cons Hc ht))
theorem nb {F:Fence} {n:Nat} {fn:Func} {tmps:Array Value} {R:Ending→World→Prop} {jk μ:bn} {h0 h:ab} {w0:World}:∀(ds:List Deferred) (rs:List Nat) (w:World),bW w0.heap.size μ w ds rs→Step E base B jk h0 w0 μ h w→
 (∀w',Step E base B jk h0 w0 μ h w'→∃v,(results fn tmps).run P w'= .ok v w'∧R (.returned v) w')→LeavesInM F n P fn tmps R ds .returning w
 |[],_,w,_,s,hR=>hR w s
 |d::ds,_,w,.cons (r:=r) (rs:=rs) hk hn ht,s,hR=>by
  refine⟨by simp,.inl ⟨r,{w with heap:=w.heap.setIfInBounds r (.deferred none)},hk.tg,?_,?_⟩⟩
  ·unfold Instr.takeDeferred;simp only[Sem.run_bind,run_getObj_map (P:=P) hk.obj (fun _ _ _=>by simp),Result.andThen_ok,cd (P:=P) hk.obj (fun _ _ _=>by simp),Sem.run_pure]
  ·have bF:r<w.heap.size:=(Array.getElem?_eq_some_iff.1 hk.obj).1;have hu:=AK.set w r (.deferred none) bF;refine nb ds rs _ ?_ (s.apart hu hk.apart hk.new) hR;have:∀{ds:List Deferred} {rs:List Nat},bW w0.heap.size μ w ds rs→r∉rs→bW w0.heap.size μ {w with heap:=w.heap.setIfInBounds r (.deferred none)} ds rs:=by
    intro ds rs k
    induction k with
    |nil=>intro _;exact .nil
    |cons h1 h2 _ ih=>
     intro Pp;simp only[List.mem_cons,not_or]at Pp;exact .cons ⟨h1.tg,by rw[hu.get,if_neg (fun e=>Pp.1 e.symm)];exact h1.obj,h1.apart,h1.new⟩ h2 (ih Pp.2)
   exact this ht hn
def A6 (P:Program) (E:Env) (base B:Nat):Prop:=
 ∀(cf:fD) (rf:eP),jQ P E base B cf→m8 P E base B rf→m9 E cf→kB rf→∀(ops:Array Oper) (f:AF) (h:ab) (f':AF) (h':ab) (tw:List ee),
  l7 ops.toList=true→jO f.n ops.toList=true→kX E base cf rf ops.toList ops.toList f h=some (f',h',tw)→kZ (c8 ops.toList []) 0 tw=true→
  ∀(μ:bn) (a:Act) (w:World),cU μ f a.tmps→bf E base B μ h w→∀(F:Fence) (n id:Nat) (Q:Exit→Act→World→Prop),gV F→
  (∀aS a' w',cU aS f' a'.tmps→a'.defers=a.defers→Step E base B μ h w aS h' w'→Q .normal a' w')→(Code.region id ops true).wpIn F n P Q a w
def E8 (P:Program) (E:Env) (base B k:Nat):Prop:=
 ∀(c:Code) (f:AF) (h:ab) (ex:Ex) (f':AF) (h':ab),a7 E base k c f h=some (ex,f',h')→
  ∀(μ:bn) (a:Act) (w:World) (W0:Nat) (rs:List Nat),cU μ f a.tmps→bf E base B μ h w→bW W0 μ w a.defers rs→W0≤w.heap.size→
  ∀(F:Fence) (n:Nat) (Q:Exit→Act→World→Prop),gV F→(F.round=none∨aW c=true)→
  (∀aS a' w' CJ,cU aS f' a'.tmps→bW W0 aS w' a'.defers CJ→Step E base B μ h w aS h' w'→Q (oL ex) a' w')→c.wpIn F n P Q a w
theorem v8 {μ:bn}:∀{args args':List Value} {i:Nat} {f:AF} {tmps:Array Value},ax μ args args'→cU μ f tmps→cU μ (AF.ou args i f) ((args'.zipIdx i).foldl (fun t p=>t.setIfInBounds p.2 p.1) tmps)
 |_,_,i,f,tmps,.nil,hf=>by simpa[AF.ou]using hf
 |_,_,i,f,tmps,.cons hv ht,hf=>by
  simp only[AF.ou,List.zipIdx_cons,List.foldl_cons];exact v8 ht (hf.set hv i)
theorem zm {μ:bn} {args:List Value} {args':Array Value} {n:Nat} (hr:ax μ args args'.toList) (hn:args.length≤n):cU μ (AF.enter args n) (args'++Array.replicate (n - args'.size) undef):=by
 have hl:args.length=args'.size:=by simpa using hr.length
 have h0:cU μ ⟨.nil,n⟩ (Array.replicate n undef):=by
  refine⟨by simp,fun t=>?_⟩;have:(AF.get ⟨.nil,n⟩ t)=undef:=rfl;rw[this];by_cases h:t<n<;>simp[h]<;>exact .undef μ
 have:=v8 (i:=0) hr h0;have e:((args'.toList.zipIdx 0).foldl (fun t p=>t.setIfInBounds p.2 p.1) (Array.replicate n undef))=args'++Array.replicate (n - args'.size) undef:=by
  have zf:=AP args'.toList 0 0 (Array.replicate n undef) (by simp;omega);simp only[Nat.zero_add]at zf;apply Array.ext
  ·rw[zf.1];simp;omega
  ·intro i h1 h2;have:=zf.2 i;rw[Array.getElem?_eq_getElem h1]at this;rw[←Option.some.injEq,this];by_cases hi:i<args'.size
   ·rw[if_pos (by simp;exact hi)];simp[hi]
   ·rw[if_neg (by simp;omega)];have nZ:i<n:=by
     rw[zf.1]at h1;simpa using h1
    simp[hi,nZ,Array.getElem_append]
 rw[←e];exact this
theorem A7 (run:yH):m9 E (gT E base run):=by
 intro g args h r hr;unfold gT at hr;simp only[Option.bind_eq_some_iff]at hr;obtain⟨fn,h1,_⟩:=hr;simp[h1]
theorem CL (run:yH):kB (gP base run):=by
 intro l args h r hr;unfold gP at hr;simp only[aj]at hr;obtain⟨_,hr⟩:=hr;split at hr
 ·rename_i p f ps iL body hg;simp only[aj,Bool.and_eq_true,beq_iff]at hr;exact⟨_,_,_,_,_,_,hg,hr.1.1.1⟩
 ·cases hr
def jy (P:Program) (E:Env) (base B:Nat):Prop:=jQ P E base B (E.uZ base)
theorem Lo (hE:bw P E) (hO:jy P E base B) {k:Nat} (hk:E8 P E base B k):jQ P E base B (gT E base (a7 E base k)):=by
 intro μ h w g args args' v h' hc hr H F n hF;unfold gT at hc;simp only[Option.bind_eq_some_iff]at hc;obtain⟨fn,h1,hc⟩:=hc;split at hc
 ·rename_i r ho;simp only[Option.some.injEq]at hc;subst hc;exact hO μ h w g args args' v h' ho hr H F n hF
 ·simp only[Option.bind_eq_some_iff,aj,aG]at hc;obtain⟨c,h2,hn,hc⟩:=hc;obtain⟨f1,f2,f3⟩:=hE.func _ _ h1
  have body:∀ex f1' yu,a7 E base k c (AF.enter args fn.ntmps) h=some (ex,f1',yu)→(oL ex= .normal∨oL ex= .ret)→(dg E yu f1' fn.results.toList).bind (fun vs=>some (cQ vs,yu))=some (v,h')→
   CallsIn F.plain n P g args' w (m7 E base B μ h w v h'):=by
   intro ex fe he gl hex E7;simp only[Option.bind_eq_some_iff,Option.some.injEq,Prod.mk.injEq]at E7;obtain⟨vs,h3,rfl,rfl⟩:=E7;refine callsIn_of_wp_marks f1 h2 (hF.fn _) ?_ rfl;refine hk c _ h ex fe he gl μ _ w w.heap.size [] (zm hr hn) H .nil (Nat.le_refl _) F.plain n _ hF.plain (.inl rfl) ?_;intro aS a' w' CJ q1 q2 q3
   have lv:LeavesInM F.plain n P fn a'.tmps (m7 E base B μ h w (cQ vs) he) a'.defers .returning w':=
    nb a'.defers CJ w' q2 q3 fun w2 s2=>by
     obtain⟨v',p1,p2⟩:=ux (P:=P) hE q1 s2.rel h3;exact⟨v',p1,v',aS,rfl,p2,s2⟩
   rcases hex with e|e<;>rw[e]<;>exact lv
  have fin:CallsIn F.plain n P g args' w (m7 E base B μ h w v h'):=by
   split at hc
   ·rename_i fe he gl;exact body _ _ _ gl (.inl rfl) hc
   ·rename_i fe he gl;exact body _ _ _ gl (.inr rfl) hc
   ·cases hc
  exact fin
end
section
variable {P:Program} {E:Env} {base B:Nat}
theorem run_getLoop {w:World} {r:Nat} {lo:Loop} (h:w.heap[r]? =some (.loop lo)):(Instr.getLoop r).run P w= .ok lo w:=by
 unfold Instr.getLoop;simp only[Sem.run_bind,run_getObj_map (P:=P) h (fun _ _ _=>by simp),Result.andThen_ok,Sem.run_pure]
theorem mh {μ:bn} {h:ab} {w:World} (H:bf E base B μ h w) {l:Nat} {m:MT} (hb:μ l=some m) (br:base≤l) {st:LoopState} {p:Option Code} {f0:AF} {ps:List Tmp} {iL body:Code} (hg:h.get l=some (.loop st p f0 ps iL body)) (He:LoopState) (p':Option Code):
 ∃lo:Loop,w.heap[m.r]? =some (.loop lo)∧lo.state=st∧lo.pending=p∧Step E base B μ h w μ (h.put l (.loop He p' f0 ps iL body)) {w with heap:=w.heap.setIfInBounds m.r (.loop {lo with state:=He,pending:=p'})}:=by
 obtain⟨o1,o2,k1,k2,k3⟩:=H.obj l m hb;rw[hg]at k1;cases k1;cases k3 with
 |loop hf=>
  refine⟨_,k2,rfl,rfl,?_⟩;exact Step.put H hb br hg rfl rfl (AK.set w m.r _ (H.lt hb)) (.loop hf)
theorem Pq {k:Nat} (hk:E8 P E base B k):m8 P E base B (gP base (a7 E base k)):=by
 intro μ h w l args v h' m f0 ps iL body st p fn tmps hr hl hb H hf F n hF;unfold gP at hr;simp only[aj,aG]at hr;obtain⟨br,hr⟩:=hr;rw[hl]at hr;cases st with
 |ready=>
  simp only[aj,Bool.and_eq_true,beq_iff]at hr;obtain⟨⟨⟨hlen,EJ⟩,oi⟩,hr⟩:=hr;split at hr
  ·rename_i f1 h1 Z3;split at hr
   ·rename_i p1 Z4 fE p4 jT CH;simp only[Option.bind_eq_some_iff]at hr;obtain⟨⟨ex,f2,h2⟩,WM,hr⟩:=hr;simp only at hr;split at hr
    ·rename_i st2 p2 Z5 nT Th Lp sY;refine roundIn_of_wpIn (hF.fn _) ?_;refine hk iL _ h .normal f1 h1 Z3 μ _ w w.heap.size [] hf H .nil (Nat.le_refl _) (F.inRound m.r) n _ (hF.inRound _) (.inr EJ) ?_;intro fK a1 w1 rQ q1 q2 s1;have oC:=s1.le _ _ hb;obtain⟨WN,e1,e2,e3,s2⟩:=mh s1.rel oC br CH .busy p1;have Ti:Step E base B fK h1 w1 fK (h1.put l (.loop .busy p1 Z4 fE p4 jT)) {w1 with heap:=w1.heap.setIfInBounds m.r (.loop {WN with state:=.busy})}:=by
      rw[←e3]at s2 ⊢;exact s2
     refine⟨{w1 with heap:=w1.heap.setIfInBounds m.r (.loop {WN with state:=.busy})},?_,?_⟩
     ·unfold Instr.beginRound;simp only[Sem.run_bind,run_getLoop (P:=P) e1,Result.andThen_ok,cd (P:=P) e1 (fun _ _ _=>by simp),e2,Sem.run_pure]
     refine hk body f1 _ ex f2 h2 WM fK a1 _ w.heap.size rQ q1 Ti.rel (q2.step Ti) (by rw[Array.size_setIfInBounds];exact s1.grow.size) (F.inRound m.r) n _ (hF.inRound _) (.inr oi) ?_;intro u7 a3 w3 rs3 q3 q4 s3;have nf:=(s1.trans Ti);have KN:=s3.le _ _ oC;have key:∀(He:LoopState) (jump:Option Code),(jump.isNone=true→He= .ready)→(jump.isNone=false→He= .done)→∃w4,(Instr.endRound m.r jump).run P w3= .ok (.bool jump.isNone) w4∧Step E base B u7 h2 w3 u7 (h2.put l (.loop He jump Z5 nT Th Lp)) w4:=by
      intro He jump Z6 RD;obtain⟨Pr,d1,d2,d3,s4⟩:=mh s3.rel KN br sY He jump;refine⟨_,?_,s4⟩;unfold Instr.endRound;simp only[Sem.run_bind,run_getLoop (P:=P) d1,Result.andThen_ok,cd (P:=P) d1 (fun _ _ _=>by simp),Sem.run_pure];cases hj:jump.isNone with
      |true=>rw[Z6 hj];simp
      |false=>rw[RD hj];simp
     cases ex with
     |normal=>
      simp only[Option.some.injEq,Prod.mk.injEq]at hr;obtain⟨rfl,rfl⟩:=hr;obtain⟨w4,k1,k2⟩:=key .ready none (fun _=>rfl) (fun h=>by simp at h);exact⟨_,w4,k1,_,u7,rfl,.bool _ _,(nf.trans s3).trans k2⟩
     |ret=>
      simp only[Option.some.injEq,Prod.mk.injEq]at hr;obtain⟨rfl,rfl⟩:=hr;obtain⟨w4,k1,k2⟩:=key .done (some .ret) (fun h=>by simp at h) (fun _=>rfl);exact⟨_,w4,k1,_,u7,rfl,.bool _ _,(nf.trans s3).trans k2⟩
     |exit id=>
      simp only[Option.some.injEq,Prod.mk.injEq]at hr;obtain⟨rfl,rfl⟩:=hr;obtain⟨w4,k1,k2⟩:=key .done (some (.exit id)) (fun h=>by simp at h) (fun _=>rfl);exact⟨_,w4,k1,_,u7,rfl,.bool _ _,(nf.trans s3).trans k2⟩
    ·cases hr
   ·cases hr
  ·cases hr
 |busy=>cases hr
 |done=>cases hr
 |exhausted=>cases hr
theorem codeOk (hE:bw P E) (hO:jy P E base B) (hD:A6 P E base B):∀k,E8 P E base B k∧
 (∀(b:Code) (f:AF) (h:ab) (ex:Ex) (f':AF) (h':ab),a7 E base k (.loop b) f h=some (ex,f',h')→
  ∀(μ:bn) (a:Act) (w:World) (W0:Nat) (rs:List Nat),cU μ f a.tmps→bf E base B μ h w→bW W0 μ w a.defers rs→W0≤w.heap.size→
  ∀(F:Fence) (n:Nat) (Q:Exit→Act→World→Prop),gV F→(F.round=none∨aW b=true)→
  (∀aS a' w' CJ,cU aS f' a'.tmps→bW W0 aS w' a'.defers CJ→Step E base B μ h w aS h' w'→Q (oL ex) a' w')→Code.roundsIn F n P b Q k a w):=by
 intro k
 induction k with
 |zero=>exact⟨fun c f h ex f' h' hr=>by simp[a7]at hr,fun b f h ex f' h' hr=>by simp[a7]at hr⟩
 |succ k ih=>
  obtain⟨hk,Lq⟩:=ih;have rR:=Lo hE hO hk;have A8:=Pq hk
  have CM:∀(b:Code) (f:AF) (h:ab) (ex:Ex) (f':AF) (h':ab),a7 E base (k+1) (.loop b) f h=some (ex,f',h')→
   ∀(μ:bn) (a:Act) (w:World) (W0:Nat) (rs:List Nat),cU μ f a.tmps→bf E base B μ h w→bW W0 μ w a.defers rs→W0≤w.heap.size→
   ∀(F:Fence) (n:Nat) (Q:Exit→Act→World→Prop),gV F→(F.round=none∨aW b=true)→
   (∀aS a' w' CJ,cU aS f' a'.tmps→bW W0 aS w' a'.defers CJ→Step E base B μ h w aS h' w'→Q (oL ex) a' w')→Code.roundsIn F n P b Q (k+1) a w:=by
   intro b f h ex f' h' hr μ a w W0 rs hf H hm hW F n Q hF v9 hQ;simp only[a7]at hr;rw[roundsIn_succ];split at hr
   ·rename_i f1 h1 hb;refine hk b f h .normal f1 h1 hb μ a w W0 rs hf H hm hW F n _ hF v9 fun fK a1 w1 rQ q1 q2 s1=>?_;exact Lq b f1 h1 ex f' h' hr fK a1 w1 W0 rQ q1 s1.rel q2 (Nat.le_trans hW s1.grow.size) F n Q hF v9 fun uq a2 w2 Tj p1 p2 s2=>hQ uq a2 w2 Tj p1 p2 (s1.trans s2)
   ·rename_i WO;refine hk b f h ex f' h' hr μ a w W0 rs hf H hm hW F n _ hF v9 fun fK a1 w1 rQ q1 q2 s1=>?_;have:=hQ fK a1 w1 rQ q1 q2 s1;cases ex with
    |normal=>exact(WO _ _ hr).elim
    |exit id=>exact this
    |ret=>exact this
  refine⟨?_,CM⟩;intro c f h ex f' h' hr μ a w W0 rs hf H hm hW F n Q hF v9 hQ;cases c with
  |skip=>
   simp only[a7,Option.some.injEq,Prod.mk.injEq]at hr;obtain⟨rfl,rfl,rfl⟩:=hr;exact wpIn_skip (hQ μ a w rs hf hm (.refl H))
  |exit id=>
   simp only[a7,Option.some.injEq,Prod.mk.injEq]at hr;obtain⟨rfl,rfl,rfl⟩:=hr;exact wpIn_exit (hQ μ a w rs hf hm (.refl H))
  |ret=>
   simp only[a7,Option.some.injEq,Prod.mk.injEq]at hr;obtain⟨rfl,rfl,rfl⟩:=hr;exact wpIn_ret (hQ μ a w rs hf hm (.refl H))
  |seq x y=>
   simp only[a7]at hr;have hx:F.round=none∨aW x=true:=v9.imp id fun h=>by simp[aW]at h;exact h.1
   have hy:F.round=none∨aW y=true:=v9.imp id fun h=>by simp[aW]at h;exact h.2
   refine wpIn_seq ?_;split at hr
   ·rename_i f1 h1 hb;refine hk x f h .normal f1 h1 hb μ a w W0 rs hf H hm hW F n _ hF hx fun fK a1 w1 rQ q1 q2 s1=>?_;exact hk y f1 h1 ex f' h' hr fK a1 w1 W0 rQ q1 s1.rel q2 (Nat.le_trans hW s1.grow.size) F n Q hF hy fun uq a2 w2 Tj p1 p2 s2=>hQ uq a2 w2 Tj p1 p2 (s1.trans s2)
   ·rename_i WO;refine hk x f h ex f' h' hr μ a w W0 rs hf H hm hW F n _ hF hx fun fK a1 w1 rQ q1 q2 s1=>?_;have:=hQ fK a1 w1 rQ q1 q2 s1;cases ex with
    |normal=>exact(WO _ _ hr).elim
    |exit id=>exact this
    |ret=>exact this
  |cond cx x y=>
   simp only[a7,Option.bind_eq_some_iff]at hr;obtain⟨v,h1,b,h2,h3⟩:=hr;have e:=vW h2;subst e;have hc:=(a8 H.dv hf h1).ar rfl;have hx:F.round=none∨aW x=true:=v9.imp id fun h=>by simp[aW]at h;exact h.1
   have hy:F.round=none∨aW y=true:=v9.imp id fun h=>by simp[aW]at h;exact h.2
   cases b with
   |true=>exact wpIn_cond_true hc (hk x f h ex f' h' h3 μ a w W0 rs hf H hm hW F n Q hF hx hQ)
   |false=>exact wpIn_cond_false hc (hk y f h ex f' h' h3 μ a w W0 rs hf H hm hW F n Q hF hy hQ)
  |block id b=>
   simp only[a7]at hr;have bL:F.round=none∨aW b=true:=v9.imp (fun h=>h) fun h=>by simpa[aW]using h
   refine wpIn_block ?_;split at hr
   ·rename_i mS f1 h1 hb;refine hk b f h (.exit mS) f1 h1 hb μ a w W0 rs hf H hm hW F n _ hF bL fun fK a1 w1 rQ q1 q2 s1=>?_;rw[bZ]at hr;show(if mS=id then Q .normal a1 w1 else Q (.exit mS) a1 w1);by_cases e:mS=id
    ·rw[if_pos (beq_iff.2 e)]at hr;simp only[Option.some.injEq,Prod.mk.injEq]at hr;obtain⟨rfl,rfl,rfl⟩:=hr;rw[if_pos e];exact hQ fK a1 w1 rQ q1 q2 s1
    ·rw[if_neg (fun hh=>e (beq_iff.1 hh))]at hr;simp only[Option.some.injEq,Prod.mk.injEq]at hr;obtain⟨rfl,rfl,rfl⟩:=hr;rw[if_neg e];exact hQ fK a1 w1 rQ q1 q2 s1
   ·rename_i WO;refine hk b f h ex f' h' hr μ a w W0 rs hf H hm hW F n _ hF bL fun fK a1 w1 rQ q1 q2 s1=>?_;have:=hQ fK a1 w1 rQ q1 q2 s1;cases ex with
    |normal=>exact this
    |exit mS=>exact(WO _ _ _ hr).elim
    |ret=>exact this
  |loop b=>
   exact wpIn_loop_rounds (k+1) (CM b f h ex f' h' hr μ a w W0 rs hf H hm hW F n Q hF (v9.imp id fun h=>by simpa[aW]using h) hQ)
  |region id ops draw=>
   simp only[a7,k8]at hr;cases draw with
   |false=>
    simp only[Option.bind_eq_some_iff,Option.some.injEq,Prod.mk.injEq]at hr;obtain⟨⟨f1,h1⟩,hb,rfl,rfl,rfl⟩:=hr;refine wpIn_region ?_;have:=A5 hE rR A8 (A7 _) (CL _) hF (n:=n) (ops:=ops) (Q:=Q) ops.toList 0 μ f h a w f1 h1 (fun j=>by simp) hb hf H fun fK a1 w1 q1 q2 s1=>hQ fK a1 w1 rs q1 (by rw[q2];exact hm.step s1) s1;rw[List.range_eq_range',←Array.length_toList];exact this
   |true=>
    simp only[aj,Bool.and_eq_true,Option.bind_eq_some_iff,Option.some.injEq,Prod.mk.injEq]at hr;obtain⟨⟨hs,hd⟩,⟨f1,h1,tw⟩,hb,hp,rfl,rfl,rfl⟩:=hr;exact hD _ _ rR A8 (A7 _) (CL _) ops f h f1 h1 tw hs hd hb hp μ a w hf H F n id Q hF fun fK a1 w1 q1 q2 s1=>hQ fK a1 w1 rs q1 (by rw[q2];exact hm.step s1) s1
  |rangeFunc g ps iL body=>
   have vp:F.round=none:=v9.resolve_right (by simp[aW]);simp only[a7,Option.bind_eq_some_iff,aj,aG]at hr;obtain⟨gv,h1,br,hr⟩:=hr;split at hr
   ·rename_i gid first captured
    simp only[Option.bind_eq_some_iff]at hr;obtain⟨⟨rv,h2⟩,hc,hr⟩:=hr;simp only at hr;have yA:=a8 H.dv hf h1;generalize hq:a.eval g=q at yA;cases yA with
    |lit hh=>simp[ay]at hh
    |func t1 t2 t3 t4=>
     rename_i qD iU;refine wpIn_rangeFunc fun fn _=>?_
     let wA:World:={w with heap:=w.heap.push (.deferred (some []))}
     let lo:Loop:={state:=.ready,pending:=none,fn:=fn,tmps:=a.tmps,params:=ps,assign:=iL,body:=body,defers:=w.heap.size}
     let wB:World:={wA with heap:=wA.heap.push (.loop lo)}
     have sA:Step E base B μ h w μ h wA:=Step.WL H (Cs.mk' w _);have Z7:wA.heap.size=w.heap.size+1:=by simp[wA]
     have sB:=Step.alloc (o:=.loop .ready none f ps.toList iL body) sA.rel (Cs.mk' wA (.loop lo)) 0 (fun _ _ _ _ hh=>by cases hh) (by
      have:=iM.loop (μ:=kl μ h.size ⟨wA.heap.size,0,0⟩) (h:=h.push (.loop .ready none f ps.toList iL body)) (base:=base) (b:=h.size) (m:=⟨wA.heap.size,0,0⟩) (st:=.ready) (p:=none) (ps:=ps.toList) (iL:=iL) (body:=body) (fn:=fn) (d:=w.heap.size) (hf.mono (gh H.fresh));simpa using this)
     let mk:Deferred:={target:=.collected w.heap.size,args:= #[]}
     have VP:tu W0 μ wA mk w.heap.size:=⟨rfl,by simp[wA],fun b m hb he=>by have:=H.lt hb;omega,hW⟩;have Pp:w.heap.size∉rs:=by
      have:∀{ds:List Deferred} {rs:List Nat},bW W0 μ w ds rs→∀r∈rs,r<w.heap.size:=by
       intro ds rs k
       induction k with
       |nil=>intro r hr;simp at hr
       |cons h1 _ _ ih=>intro r hr;rcases List.mem_cons.1 hr with rfl |hr
                        ·exact(Array.getElem?_eq_some_iff.1 h1.obj).1
                        ·exact ih r hr
      intro qG;have:=this hm _ qG;omega
     have hmarks:bW W0 μ wA (mk::a.defers) (w.heap.size::rs):=.cons VP Pp (hm.step sA)
     let args':Array Value:=qD++ #[.func (.yield wA.heap.size) #[] #[]]++iU
     have v7:=A7 (E:=E) _ _ _ _ _ hc;obtain⟨WQ,Tk⟩:=Option.isSome_iff_exists.1 v7;obtain⟨g1,g2,g3⟩:=hE.func _ _ Tk;have Z8:WQ.body.isNone=false:=by cases hx:WQ.body<;>simp_all
     have jV:ax (kl μ h.size ⟨wA.heap.size,0,0⟩) (first.toList++[.func (.yield h.size) #[] #[]]++captured.toList) args'.toList:=by
      have hle:μ.le (kl μ h.size ⟨wA.heap.size,0,0⟩):=gh H.fresh;have v1:=(ax.mX t1 t2).mono hle;have v3:=(ax.mX t3 t4).mono hle;have v2:=ax.cons (aq.yield (bO μ h.size ⟨wA.heap.size,0,0⟩)) .nil;simpa[args']using(v1.append v2).append v3
     refine⟨wA.heap.size,[mk],wB,{target:=.fn (.func gid) iU,args:=qD++ #[.func (.yield wA.heap.size) #[] #[]]},wB,gid,args',wB,?_,?_,fun _ _=>hF.fn _,?_,hF.ok n,?_⟩
     ·rw[vp];unfold Instr.enterLoop;simp only[Sem.run_bind,run_newObj,Result.andThen_ok,Sem.run_pure];rfl
     ·have Z9:∀v:Value,a.eval (.const v)=v:=fun _=>rfl;simp[resolve,hq,Deferred.ofValue,Sem.run_pure,Z9]
     ·simp only[invoke,callFunc,Sem.run_bind,run_program,Result.andThen_ok,g1,g3,Z8,Bool.false_eq_true,if_false,Sem.run_pure];rfl
     ·refine(rR _ _ wB gid _ args' rv h2 hc jV sB.rel F (n - 1) hF).mono ?_;rintro e w3 ⟨v',u7,rfl,k1,s3⟩;have KN:u7 h.size=some ⟨wA.heap.size,0,0⟩:=s3.le _ _ (bO _ _ _);split at hr
      ·rename_i st p f0 KJ u5 nR hl;simp only[aj]at hr;obtain⟨ct,hr⟩:=hr;obtain⟨Pr,d1,d2,d3,s4⟩:=mh s3.rel KN br hl .exhausted p;have Tl:Step E base B u7 h2 w3 u7 (h2.put h.size (.loop .exhausted p f0 KJ u5 nR)) {w3 with heap:=w3.heap.setIfInBounds wA.heap.size (.loop {Pr with state:=.exhausted})}:=by
        rw[←d3]at s4 ⊢;exact s4
       have nf:=((sA.trans sB).trans s3).trans Tl;have WR:bW W0 u7 {w3 with heap:=w3.heap.setIfInBounds wA.heap.size (.loop {Pr with state:=.exhausted})} (mk::a.defers) (w.heap.size::rs):=((hmarks.step sB).step s3).step Tl;refine⟨p,{w3 with heap:=w3.heap.setIfInBounds wA.heap.size (.loop {Pr with state:=.exhausted})},?_,?_⟩
       ·unfold Instr.endLoop;simp only[Sem.run_bind,run_getLoop (P:=P) d1,Result.andThen_ok];rw[if_neg (by rw[d2];intro hh;rw[bne_iff_ne]at ct;exact ct (eq_of_beq hh))];simp only[Sem.run_bind,cd (P:=P) d1 (fun _ _ _=>by simp),Result.andThen_ok,Sem.run_pure,d3]
       ·cases p with
        |none=>
         simp only[Option.some.injEq,Prod.mk.injEq]at hr;obtain⟨rfl,rfl,rfl⟩:=hr;exact hQ u7 _ _ _ (hf.mono nf.le) WR nf
        |some cj=>
         simp only at hr;exact hk cj f _ ex f' h' hr u7 {a with defers:=mk::a.defers} _ W0 _ (hf.mono nf.le) Tl.rel WR (Nat.le_trans hW nf.grow.size) F n Q hF (.inl vp) fun μ5 a5 w5 rs5 p1 p2 s5=>hQ μ5 a5 w5 rs5 p1 p2 (nf.trans s5)
      ·cases hr
   ·cases hr
  |scope b=>simp only[a7]at hr;cases hr
  |label l=>simp only[a7]at hr;cases hr
  |goto l=>simp only[a7]at hr;cases hr
  |refuse s=>simp only[a7]at hr;cases hr
end
def we (base:Nat) (μ:bn) (h:ab) (w:World) (b:Nat) (m:MT):Prop:=∃o o',h.get b=some o∧w.heap[m.r]? =some o'∧iM μ h base b m o o'
theorem we.read {base:Nat} {μ:bn} {h:ab} {w:World} {b:Nat} {m:MT} (H:we base μ h w b m) {cs:List Value} (hr:h.rd b=some cs):
 ∃c e fr,w.heap[m.r]? =some (.cells c e fr)∧c.size=m.n∧m.s+cs.length≤m.n∧(base≤b→oA fr m.n)∧∀(i:Nat) v,cs[i]? =some v→∃v',c[m.s+i]? =some v'∧aq μ v v':=by
 obtain⟨o,o',ho,IJ,rH⟩:=H;obtain⟨r,h1,h2,h3⟩:=rd_some hr;obtain⟨f,cO,aO,hg⟩:=dI h3;rw[hg]at ho;cases ho;cases rH with
 |cells hn hl hf hc=>exact⟨_,_,_,IJ,hn,hl,hf,hc (by simp[hr])⟩
theorem we.ae {base:Nat} {μ:bn} {h:ab} {w:World} {b o n:Nat} {m:MT} (H:we base μ h w b m) {l:List Value} (hr:ae h b o n=some l):
 l.length=n∧∀(i:Nat) v,l[i]? =some v→∃v',w.cell? ⟨m.r,m.s+o+i,none⟩=some v'∧aq μ v v':=by
 unfold M.ae at hr;simp only[Option.bind_eq_some_iff,aU]at hr;obtain⟨cs,h1,h2,rfl⟩:=hr;refine⟨by simp at h2 ⊢;omega,fun i v hv=>?_⟩;obtain⟨c,e,fr,hw,hn,hl,hf,hc⟩:=H.read h1;have hi:i<n:=by
  have:=(List.getElem?_eq_some_iff.1 hv).1;simp at this;omega
 rw[List.getElem?_take,if_pos hi,List.getElem?_drop]at hv;obtain⟨v',k1,k2⟩:=hc _ v hv;refine⟨v',?_,k2⟩;simp only[World.cell?,hw];simpa[Nat.add_assoc]using k1
section
variable {P:Program} {E:Env} {μ:bn} {f:AF} {a:Act} {base B:Nat} {h:ab} {w:World}
theorem we.zi {b o n:Nat} {m:MT} (H:we base μ h w b m) {l:List Value} (hr:M.ae h b o n=some l):
 ∃l',ax μ l l'∧∀(i:Nat) v,l'[i]? =some v→w.cell? ⟨m.r,m.s+o+i,none⟩=some v:=by
 obtain⟨h1,h2⟩:=H.ae hr;have key:∀(l:List Value) (k:Nat),(∀(i:Nat) v,l[i]? =some v→∃v',w.cell? ⟨m.r,m.s+o+k+i,none⟩=some v'∧aq μ v v')→∃l',ax μ l l'∧∀(i:Nat) v,l'[i]? =some v→w.cell? ⟨m.r,m.s+o+k+i,none⟩=some v:=by
  intro l
  induction l with
  |nil=>intro k _;exact⟨[],.nil,fun i v h=>by simp at h⟩
  |cons v l ih=>
   intro k hl;obtain⟨v',q1,q2⟩:=hl 0 v rfl;obtain⟨l',r1,r2⟩:=ih (k+1) fun i u hu=>by
    obtain⟨u',k1,k2⟩:=hl (i+1) u (by simpa using hu);exact⟨u',by rw[←k1];congr 2;omega,k2⟩
   refine⟨v'::l',.cons q2 r1,fun i u hu=>?_⟩;cases i with
   |zero=>simp at hu;subst hu;simpa using q1
   |succ i=>
    simp at hu;rw[←r2 i u hu];congr 2;omega
 obtain⟨l',r1,r2⟩:=key l 0 (by simpa using h2);exact⟨l',r1,by simpa using r2⟩
theorem IQ (hE:bw P E) (hf:cU μ f a.tmps) (hg:gk E μ) {o:Oper} {q:RQ} {v:Value} (hq:bG E f o=some q) (Hq:∀m,μ q.dw=some m→∃h,q.run h=some v∧we base μ h w q.dw m):
 ∃v',aq μ v v'∧(execOp a.eval o).run P w= .ok (.value v') w:=by
 obtain⟨dst,op,type,pos,after,guard⟩:=o;cases op
 case load t x=>
  simp only[bG,Option.bind_eq_some_iff,Option.some.injEq]at hq;obtain⟨u,h1,p,h2,⟨agg,n⟩,h3,rfl⟩:=hq;have e:=kx h2;subst e;obtain⟨m,hb,ex⟩:=(a8 hg hf h1).jZ;obtain⟨h,hv,H⟩:=Hq m hb;simp only[RQ.run,Option.bind_eq_some_iff]at hv;obtain⟨l,h4,h5⟩:=hv;obtain⟨l',r1,r2⟩:=H.zi h4;obtain⟨v',q1,q2⟩:=ji h5 r1;refine⟨v',q2,?_⟩;have hl:l'.length=n:=by rw[←r1.length];exact(H.ae h4).1
  simp only[execOp,Instr.loadAt,Sem.run_bind,ex,Instr.sureAddr,Sem.run_pure,Result.andThen_ok];rw[oH hE h3 hl r2 q1];rfl
 case lookup t x ix ok=>
  simp only[bG,Option.bind_eq_some_iff]at hq;obtain⟨d,hd,mv,h1,k,h2,h3⟩:=hq;split at h3
  ·rename_i kt elem r;simp only[Option.bind_eq_some_iff,aj,Bool.and_eq_true,Option.some.injEq]at h3;obtain⟨kd,ir,z,hz,⟨⟨s1,s2⟩,s3⟩,rfl⟩:=h3;obtain⟨m,hb,ex⟩:=(a8 hg hf h1).k9;have ek:=(a8 hg hf h2).ar s2;obtain⟨h,hv,H⟩:=Hq m hb;simp only[RQ.run,Option.bind_eq_some_iff]at hv;obtain⟨⟨es,clock⟩,h4,h5⟩:=hv;obtain⟨o1,o2,k1,k2,k3⟩:=H;have hm:h.get r=some (.map es clock):=by
    unfold eO at h4;split at h4<;>simp at h4;obtain⟨rfl,rfl⟩:=h4;assumption
   simp only[RQ.dw]at k1 k3;rw[hm]at k1;cases k1;cases k3 with
   |map hs=>
    rename_i bT;have pz:=run_getObj_map (P:=P) k2 (fun _ _ _=>by simp);simp only[jN,Option.bind_eq_some_iff,Option.some.injEq]at h5;obtain⟨fr,h6,h7⟩:=h5;obtain⟨KM,q1,q2,q3⟩:=jx hs h6;have qB:=aq.b9 μ s3;have Cz:(Instr.findKey kt k bT.toList).run P w= .ok KM w:=by
     simp only[Instr.findKey,Sem.run_bind,aC hE ir w,Result.andThen_ok,q1,Sem.run_pure]
    have sX:=ky (P:=P) hE ir s1 bT.isEmpty 9999 k w;have fin:∀(u u':Value) (b:Bool),aq μ u u'→aq μ (bif ok then .tuple #[u,.bool b]else u) (if ok=true then .tuple #[u',.bool b]else u'):=by
     intro u u' b hu;cases ok with
     |true=>simp only[cond_true,if_true];exact .dC (by simpa using ax.cons hu (.cons (.bool μ b) .nil))
     |false=>simpa using hu
    cases fr with
    |none=>
     have e:=q2 rfl;subst e;simp only at h7;subst h7;refine⟨_,fin z z false qB,?_⟩;simp only[execOp,Instr.lookup,Sem.run_bind,aC hE hd w,Result.andThen_ok,ex,ek,pz,Sem.run_pure,sX,Cz,kq hE hz w]
    |some jv=>
     obtain⟨v',e,hr⟩:=q3 jv.1 jv.2 rfl;subst e;simp only at h7;subst h7;refine⟨_,fin jv.2 v' true hr,?_⟩;simp only[execOp,Instr.lookup,Sem.run_bind,aC hE hd w,Result.andThen_ok,ex,ek,pz,Sem.run_pure,sX,Cz]
  ·cases h3
 case call c=>
  simp only[bG]at hq;split at hq
  ·rename_i t ts AT Td;simp only[Option.bind_eq_some_iff]at hq;obtain⟨d,hd,args,h1,h2⟩:=hq;split at h2
   ·rename_i kt et r rest;simp only[Option.some.injEq]at h2;subst h2;have hr:=j6 hg hf h1;cases ku:c.args.toList.map a.eval with
    |nil=>rw[ku]at hr;cases hr
    |cons u us=>
     rw[ku]at hr;cases hr with
     |cons hx _=>
      obtain⟨m,hb,rfl⟩:=hx.k9;obtain⟨h,hv,H⟩:=Hq m hb;simp only[RQ.run,Option.bind_eq_some_iff,Option.some.injEq]at hv;obtain⟨⟨es,clock⟩,h4,rfl⟩:=hv;obtain⟨o1,o2,k1,k2,k3⟩:=H;have hm:h.get r=some (.map es clock):=by
       unfold eO at h4;split at h4<;>simp at h4;obtain⟨rfl,rfl⟩:=h4;assumption
      simp only[RQ.dw]at k1 k3;rw[hm]at k1;cases k1;cases k3 with
      |map hs=>
       rename_i bT;have pz:=run_getObj_map (P:=P) k2 (fun _ _ _=>by simp);have e0:(c.args.map a.eval)[0]? =some (.map (some m.r)):=by
        have:(c.args.map a.eval).toList= .map (some m.r)::us:=by simpa using ku
        rw[←Array.getElem?_toList,this];rfl
       have e1:c.argTypes[0]? =some t:=by rw[←Array.getElem?_toList,Td];rfl
       refine⟨goInt bT.size,?_,?_⟩
       ·have:=hs.length;simp only[Array.length_toList]at this;rw[this];exact .int μ _ _
       ·simp only[execOp,resolve,AT,Sem.run_bind,Sem.run_pure,Result.andThen_ok,invoke,builtin,Builtin.len_,e0,e1,aC hE hd w,pz]
   ·cases h2
  ·cases hq
 all_goals(simp only[bG]at hq;cases hq)
def yP (o:Oper) (f f':AF):Prop:=∀t,Operand.tmp t∈o.op.operands→f.get t=f'.get t
theorem bJ {f f':AF} {x:Operand} (h:∀t,x= .tmp t→f.get t=f'.get t):ev E f x=ev E f' x:=by
 cases x<;>simp only[ev];rw[h _ rfl]
theorem mi {f f':AF}:∀{xs:List Operand},(∀t,Operand.tmp t∈xs→f.get t=f'.get t)→EO E f xs=EO E f' xs
 |[],_=>rfl
 |x::l,h=>by
  simp only[EO];rw[bJ (fun t e=>h t (by rw[e];exact List.mem_cons_self)),mi fun t ht=>h t (List.mem_cons_of_mem _ ht)]
theorem ng {f f':AF}:∀{xs:List (Nat×Operand)},(∀t,Operand.tmp t∈xs.map (·.2)→f.get t=f'.get t)→ig E f xs=ig E f' xs
 |[],_=>rfl
 |(i,x)::l,h=>by
  simp only[ig];rw[bJ (fun t e=>h t (by rw[e];exact List.mem_cons_self)),ng fun t ht=>h t (List.mem_cons_of_mem _ ht)]
theorem qH {f f':AF} {x:Option Operand} (h:∀t,x=some (.tmp t)→f.get t=f'.get t):ov E f x=ov E f' x:=by
 cases x<;>simp only[ov];rw[bJ fun t e=>h t (by rw[e])]
theorem E9 {f f':AF} {o:Oper} (h:yP o f f'):aI E f o=aI E f' o:=by
 obtain⟨dst,op,type,pos,after,guard⟩:=o;unfold yP at h;cases op<;>simp only[Op.operands]at h<;>simp only[aI]
 case call c=>
  have h2:∀t,Operand.tmp t∈c.args.toList→f.get t=f'.get t:=fun t ht=>h t (by simp[Call.operands]at ht ⊢;exact .inr ht);rw[mi h2]
 case makeFunc fn first captured=>
  rw[mi (xs:=first.toList) fun t ht=>h t (by simp at ht ⊢;exact .inl ht),mi (xs:=captured.toList) fun t ht=>h t (by simp at ht ⊢;exact .inr ht)]
 case build t ps=>rw[ng fun t ht=>h t (by simpa using ht)]
 case slice t x lo hi mx=>
  rw[bJ fun t e=>h t (by simp[e]),qH (x:=lo) fun t e=>h t (by simp[e]),qH (x:=hi) fun t e=>h t (by simp[e]),qH (x:=mx) fun t e=>h t (by simp[e])]
 case pick c x y=>rw[bJ (x:=c) fun t e=>h t (by simp[e]),bJ (x:=x) fun t e=>h t (by simp[e]),bJ (x:=y) fun t e=>h t (by simp[e])]
 case binOp op t x y z=>rw[bJ (x:=x) fun t e=>h t (by simp[e]),bJ (x:=y) fun t e=>h t (by simp[e])]
 case indexAddr t x y=>rw[bJ (x:=x) fun t e=>h t (by simp[e]),bJ (x:=y) fun t e=>h t (by simp[e])]
 case index t x y=>rw[bJ (x:=x) fun t e=>h t (by simp[e]),bJ (x:=y) fun t e=>h t (by simp[e])]
 case lookup t x y k=>rw[bJ (x:=x) fun t e=>h t (by simp[e]),bJ (x:=y) fun t e=>h t (by simp[e])]
 all_goals first|rfl |(rw[bJ fun t e=>h t (by simp[e])])
theorem Fe {f f':AF} {o:Oper} (h:yP o f f'):bG E f o=bG E f' o:=by
 obtain⟨dst,op,type,pos,after,guard⟩:=o;unfold yP at h;cases op<;>simp only[Op.operands]at h<;>simp only[bG]
 case call c=>
  have h2:∀t,Operand.tmp t∈c.args.toList→f.get t=f'.get t:=fun t ht=>h t (by simp[Call.operands]at ht ⊢;exact .inr ht);rw[mi h2]
 case lookup t x y k=>rw[bJ (x:=x) fun t e=>h t (by simp[e]),bJ (x:=y) fun t e=>h t (by simp[e])]
 all_goals first|rfl |(rw[bJ fun t e=>h t (by simp[e])])
theorem CN {f f':AF} {o:Oper} (h:yP o f f'):bc E f o=bc E f' o:=by
 obtain⟨dst,op,type,pos,after,guard⟩:=o;unfold yP at h;cases op<;>simp only[Op.operands]at h<;>simp only[bc]
 case buildSlice t n ps=>rw[ng fun t ht=>h t (by simpa using ht)]
 case makeMap t r=>cases r<;>rfl
 case makeSlice t x y=>rw[bJ (x:=x) fun t e=>h t (by simp[e]),bJ (x:=y) fun t e=>h t (by simp[e])]
 all_goals first|rfl |(rw[bJ fun t e=>h t (by simp[e])])
theorem IS {f f':AF} {o:Oper} (h:yP o f f') (k:ab):c7 E base f o k=c7 E base f' o k:=by
 obtain⟨dst,op,type,pos,after,guard⟩:=o;unfold yP at h;cases op<;>simp only[Op.operands]at h<;>simp only[c7]
 case call c=>
  have h2:∀t,Operand.tmp t∈c.args.toList→f.get t=f'.get t:=fun t ht=>h t (by simp[Call.operands]at ht ⊢;exact .inr ht);rw[mi h2];cases hc:c.callee with
  |value g=>
   have h3:∀t,g= .tmp t→f.get t=f'.get t:=fun t ht=>h t (by simp[Call.operands,hc,ht]);simp only
   rw[bJ h3]
  |builtin b=>rfl
  |invoke r m=>rfl
 case store t x y=>rw[bJ (x:=x) fun t e=>h t (by simp[e]),bJ (x:=y) fun t e=>h t (by simp[e])]
 case mapUpdate t x y z|insert t x y z=>rw[bJ (x:=x) fun t e=>h t (by simp[e]),bJ (x:=y) fun t e=>h t (by simp[e]),bJ (x:=z) fun t e=>h t (by simp[e])]
 all_goals first|rfl |(rw[bJ fun t e=>h t (by simp[e])])
theorem Ff {f f':AF} {o:Oper} (h:yP o f f') (k:ab) (cf:fD) (rf:eP):eL E base cf rf o f k=eL E base cf rf o f' k:=by
 unfold eL;rw[E9 h,Fe h,CN h,IS h]
def AF.only (f:AF) (l:List Nat):AF:=⟨l.foldl (fun tr t=>tr.set t (f.get t)) .nil,f.n⟩
theorem AF.wg (f:AF) (l:List Nat) (t:Nat):(f.only l).get t=if t∈l then f.get t else undef:=by
 have key:∀(l:List Nat) (tr:Tr Value),(∀t,tr.get t=none∨tr.get t=some (f.get t))→∀t,(l.foldl (fun tr t=>tr.set t (f.get t)) tr).get t=if t∈l then some (f.get t)else tr.get t:=by
  intro l
  induction l with
  |nil=>intro tr _ t;simp
  |cons x l ih=>
   intro tr Tm t;simp only[List.foldl_cons];have h0:∀t,(tr.set x (f.get x)).get t=none∨(tr.set x (f.get x)).get t=some (f.get t):=fun t=>by
    rw[Tr.gQ];by_cases e:t=x
    ·subst e;rw[if_pos rfl];exact .inr rfl
    ·rw[if_neg e];exact Tm t
   rw[ih _ h0 t,Tr.gQ];by_cases h1:t∈l
   ·simp[h1]
   ·by_cases h2:t=x
    ·subst h2;simp
    ·simp[h1,h2]
 have e:(f.only l).get t=(match(l.foldl (fun(tr:Tr Value) t=>tr.set t (f.get t)) Tr.nil).get t with|some v=>v|none=>undef):=rfl;rw[e,key l .nil (fun _=>.inl rfl) t,Tr.get_nil];by_cases ht:t∈l
 ·rw[if_pos ht,if_pos ht]
 ·rw[if_neg ht,if_neg ht]
def mj (tmps:Array Value) (l:List Nat):Array Value:=(Array.range tmps.size).map fun t=>if t∈l then tmps.getD t undef else undef
theorem wi (tmps:Array Value) (l:List Nat):(mj tmps l).size=tmps.size:=by simp[mj]
theorem zn (tmps:Array Value) (l:List Nat) (t:Nat):(mj tmps l).getD t undef=if t∈l then tmps.getD t undef else undef:=by
 by_cases ht:t<tmps.size
 ·simp[mj,ht]
 ·simp[mj,ht]
def zo (a:Act) (l:List Nat):Act:={a with tmps:=mj a.tmps l}
theorem Ls {f:AF} {a:Act} {l:List Nat} (hn:a.tmps.size=f.n) (h:∀t∈l,aq μ (f.get t) (a.tmps.getD t undef)):cU μ (f.only l) (zo a l).tmps:=by
 refine⟨?_,fun t=>?_⟩
 ·show f.n=(mj a.tmps l).size;rw[wi];exact hn.symm
 ·show aq μ _ ((mj a.tmps l).getD t undef);rw[AF.wg,zn];split
  ·exact h t ‹_›
  ·exact .undef μ
theorem qd {ops:List Oper} {o:Oper} {t:Nat} (h:Operand.tmp t∈o.op.operands):t∈looks ops o:=by
 unfold looks;exact List.mem_append_left _ (List.mem_filterMap.2 ⟨.tmp t,by simpa using h,rfl⟩)
theorem nU {ops:List Oper} {o:Oper} {g:Nat} {want:Bool} {t:Nat} (h:o.guard=some (g,want)) (h2:(ops[g]?).bind (·.dst)=some t):t∈looks ops o:=by
 unfold looks;rw[h];simp[h2]
theorem IT (ops:List Oper) (o:Oper) (f:AF):yP o (f.only (looks ops o)) f:=fun t ht=>by
 rw[AF.wg,if_pos (qd ht)]
theorem CO (ops:List Oper) (o:Oper) (f:AF):wanted ops o (f.only (looks ops o))=wanted ops o f:=by
 unfold wanted;cases hg:o.guard with
 |none=>rfl
 |some gw=>
  obtain⟨g,want⟩:=gw;simp only
  cases hd:(ops[g]?).bind (·.dst)with
  |none=>rfl
  |some t=>
   simp only
   rw[AF.wg,if_pos (nU hg hd)]
theorem IU {ops:List Oper} {o:Oper} {a:Act} {x:Operand} (h:x∈o.op.operands):a.eval x=(zo a (looks ops o)).eval x:=by
 cases x with
 |tmp t=>
  have:=zn a.tmps (looks ops o) t;rw[if_pos (qd h)]at this;show a.tmps.getD t undef=(mj a.tmps (looks ops o)).getD t undef;exact this.symm
 |_=>rfl
theorem IV {ops:List Oper} {o:Oper} {a:Act} (hs:∀cs b,o.op≠ .select cs b):execOp a.eval o=execOp (zo a (looks ops o)).eval o:=
 execOp_congr o hs fun _ hx=>IU hx
theorem A9 {ops:Array Oper} {o:Oper} {a:Act}:Region.wanted o (yielded ops (zo a (looks ops.toList o)).tmps)=Region.wanted o (yielded ops a.tmps):=by
 unfold Region.wanted;cases hg:o.guard with
 |none=>rfl
 |some gw=>
  obtain⟨g,want⟩:=gw;simp only
  congr 1
  unfold yielded;cases hd:(ops[g]?).bind (·.dst)with
  |none=>simp
  |some t=>
   simp only[Option.bind_some];have hm:t∈looks ops.toList o:=nU hg (by simpa using hd);show(match(mj a.tmps (looks ops.toList o))[t]? with|some (.bool b)=>some b|_=>none)=_;by_cases ht:t<a.tmps.size
   ·have h1:(mj a.tmps (looks ops.toList o))[t]? =a.tmps[t]? :=by
     simp[mj,ht,hm]
    rw[h1];rfl
   ·have e1:a.tmps[t]? =none:=Array.getElem?_eq_none (Nat.le_of_not_lt ht);have e2:(mj a.tmps (looks ops.toList o))[t]? =none:=Array.getElem?_eq_none (by rw[wi];exact Nat.le_of_not_lt ht);rw[e1,e2]
theorem noSelect {cf:fD} {rf:eP} {o:Oper} {r:SQ} {k:ab} (h:eL E base cf rf o f k=some r):∀cs b,o.op≠ .select cs b:=by
 intro cs b hc;unfold eL at h;simp only[aI,bG,bc,c7,hc]at h;cases h
end
section
variable {E:Env} {base:Nat} {cf:fD} {rf:eP}
theorem uy {o:Oper} {f:AF} {h:ab} {r:SQ} (hr:eL E base cf rf o f h=some r):
 (aI E f o=some r.v∧r.h=h∧r.log= .pure)∨
 (∃q,bG E f o=some q∧q.run h=some r.v∧r.h=h∧r.log= .rd q h)∨
 (∃md hd,bc E f o=some (md,hd)∧r.v=hd.val h.size∧r.h=h.push (md.obj h.size)∧r.log= .alloc h r.h)∨
 r.log= .dp h r.h:=by
 unfold eL at hr;split at hr
 ·simp only[Option.some.injEq]at hr;subst hr;exact .inl ⟨by assumption,rfl,rfl⟩
 ·split at hr
  ·simp only[Option.bind_eq_some_iff,Option.some.injEq]at hr;obtain⟨v,hv,rfl⟩:=hr;exact .inr (.inl ⟨_,by assumption,hv,rfl,rfl⟩)
  ·split at hr
   ·simp only[Option.some.injEq]at hr;subst hr;exact .inr (.inr (.inl ⟨_,_,by assumption,rfl,rfl,rfl⟩))
   ·split at hr
    ·simp only[Option.some.injEq]at hr;subst hr;rename_i he;refine .inr (.inr (.inr rfl))
    ·simp only[Option.bind_eq_some_iff,Option.some.injEq]at hr;obtain⟨x,_,rfl⟩:=hr;exact .inr (.inr (.inr rfl))
    ·simp only[Option.bind_eq_some_iff,Option.some.injEq]at hr;obtain⟨x,_,rfl⟩:=hr;exact .inr (.inr (.inr rfl))
    ·cases hr
structure Trace (E:Env) (base:Nat) (cf:fD) (rf:eP) (all ops:List Oper) (fs:Nat→AF) (hs:Nat→ab) (vs:Nat→Value) (lg:Nat→ee):Prop where
 put:∀j o,ops[j]? =some o→fs (j+1)=(fs j).put o.dst (vs j)
 run:∀j o,ops[j]? =some o→(wanted all o (fs j)=true∧eL E base cf rf o (fs j) (hs j)=some ⟨vs j,hs (j+1),lg j⟩)∨(wanted all o (fs j)=false∧vs j=undef∧hs (j+1)=hs j∧lg j= .pure)
theorem CP {all:List Oper}:∀{ops:List Oper} {f:AF} {h:ab} {f':AF} {h':ab} {tw:List ee},kX E base cf rf all ops f h=some (f',h',tw)→
 ∃fs hs vs lg,Trace E base cf rf all ops fs hs vs lg∧fs 0=f∧hs 0=h∧fs ops.length=f'∧hs ops.length=h'∧∀j,j<ops.length→tw[j]? =some (lg j)
 |[],f,h,f',h',tw,hr=>by
  simp only[kX,Option.some.injEq,Prod.mk.injEq]at hr;obtain⟨rfl,rfl,rfl⟩:=hr;exact⟨fun _=>f,fun _=>h,fun _=>undef,fun _=>.pure,⟨fun j o ho=>by simp at ho,fun j o ho=>by simp at ho⟩,rfl,rfl,rfl,rfl,fun j hj=>by simp at hj⟩
 |o::ops,f,h,f',h',tw,hr=>by
  simp only[kX]at hr
  have fin:∀(v:Value) (h1:ab) (l1:ee) (f1:AF) (h2:ab) (l2:List ee),kX E base cf rf all ops (f.put o.dst v) h1=some (f1,h2,l2)→
   ((wanted all o f=true∧eL E base cf rf o f h=some ⟨v,h1,l1⟩)∨(wanted all o f=false∧v=undef∧h1=h∧l1= .pure))→
   ∃fs hs vs lg,Trace E base cf rf all (o::ops) fs hs vs lg∧fs 0=f∧hs 0=h∧fs (o::ops).length=f1∧hs (o::ops).length=h2∧∀j,j<(o::ops).length→(l1::l2)[j]? =some (lg j):=by
   intro v h1 l1 f1 h2 l2 gl hk;obtain⟨fs,hs,vs,lg,T,e1,e2,e3,e4,e5⟩:=CP gl;refine⟨fun |0=>f|j+1=>fs j,fun |0=>h|j+1=>hs j,fun |0=>v|j+1=>vs j,fun |0=>l1|j+1=>lg j,⟨?_,?_⟩,rfl,rfl,e3,e4,?_⟩
   ·intro j p hp;cases j with
    |zero=>simp at hp;subst hp;exact e1
    |succ j=>exact T.put j p (by simpa using hp)
   ·intro j p hp;cases j with
    |zero=>simp at hp;subst hp;simpa[e2]using hk
    |succ j=>exact T.run j p (by simpa using hp)
   ·intro j hj;cases j with
    |zero=>rfl
    |succ j=>simpa using e5 j (by simpa using hj)
  split at hr
  ·rename_i hw;simp only[Option.bind_eq_some_iff,Option.some.injEq,Prod.mk.injEq]at hr;obtain⟨r,jJ,⟨f1,h2,l2⟩,pA,rfl,rfl,rfl⟩:=hr;exact fin _ _ _ _ _ _ pA (.inl ⟨hw,by rw[jJ]⟩)
  ·rename_i hw;simp only[Option.bind_eq_some_iff,Option.some.injEq,Prod.mk.injEq]at hr;obtain⟨⟨f1,h2,l2⟩,pA,rfl,rfl,rfl⟩:=hr;exact fin _ _ _ _ _ _ pA (.inr ⟨hw,rfl,rfl,rfl⟩)
def Fg (acc:List Nat) (s:Nat) (e:Edge):Nat:=match Region.binds .any e with|true=>s|||2 ^ e.on|||acc.getD e.on 0|false=>s
theorem Ba (p:Oper) (l:List Oper) (acc:List Nat):c8 (p::l) acc=c8 l (acc++[p.after.toList.foldl (Fg acc) 0]):=rfl
theorem wm (acc:List Nat) (b:Nat):∀(es:List Edge) (s:Nat),(es.foldl (Fg acc) s).testBit b=true→
 s.testBit b=true∨∃e∈es,Region.binds .any e=true∧(b=e.on∨(acc.getD e.on 0).testBit b=true)
 |[],s,h=>.inl h
 |e::es,s,h=>by
  simp only[List.foldl_cons]at h;rcases wm acc b es _ h with h1|⟨e',h1,h2⟩
  ·unfold Fg at h1;cases hb:Region.binds .any e with
   |false=>rw[hb]at h1;exact .inl h1
   |true=>
    rw[hb]at h1;simp only[Nat.testBit_or,Bool.or_eq_true,Nat.testBit_two_pow,decide_eq_true_eq]at h1;rcases h1 with (h1|h1)|h1
    ·exact .inl h1
    ·exact .inr ⟨e,List.mem_cons_self,hb,.inl h1.symm⟩
    ·exact .inr ⟨e,List.mem_cons_self,hb,.inr h1⟩
  ·exact .inr ⟨e',List.mem_cons_of_mem _ h1,h2⟩
theorem rS:∀(l:List Oper) (acc:List Nat),∃ys,c8 l acc=acc++ys∧∀i o,l[i]? =some o→∀b,((acc++ys).getD (acc.length+i) 0).testBit b=true→
 ∃e∈o.after.toList,Region.binds .any e=true∧(b=e.on∨(e.on<acc.length+i∧((acc++ys).getD e.on 0).testBit b=true))
 |[],acc=>⟨[],by simp[c8],fun i o h=>by simp at h⟩
 |p::l,acc=>by
  obtain⟨ys,h1,h2⟩:=rS l (acc++[p.after.toList.foldl (Fg acc) 0]);refine⟨(p.after.toList.foldl (Fg acc) 0)::ys,by rw[Ba,h1];simp,fun i o ho b hb=>?_⟩;cases i with
  |zero=>
   simp at ho;subst ho;have e0:(acc++(p.after.toList.foldl (Fg acc) 0)::ys).getD (acc.length+0) 0=(p.after.toList.foldl (Fg acc) 0):=by
    simp[List.getD]
   rw[e0]at hb;rcases wm _ _ _ _ hb with hz|⟨e,k1,k2,k3⟩
   ·simp at hz
   ·refine⟨e,k1,k2,?_⟩;rcases k3 with k3|k3
    ·exact .inl k3
    ·by_cases bF:e.on<acc.length
     ·refine .inr ⟨om,?_⟩;rw[←k3];simp[List.getD,List.getElem?_append_left bF]
     ·simp[List.getD,List.getElem?_eq_none (Nat.le_of_not_lt bF)]at k3
  |succ i=>
   have:=h2 i o (by simpa using ho) b (by simpa[Nat.add_assoc,Nat.add_comm 1 i]using hb);simpa[Nat.add_assoc,Nat.add_comm 1 i]using this
theorem uz {ops:List Oper} {i:Nat} {o:Oper} (ho:ops[i]? =some o) {b:Nat} (hb:((c8 ops []).getD i 0).testBit b=true):
 ∃e∈o.after.toList,Region.binds .any e=true∧(b=e.on∨(e.on<i∧((c8 ops []).getD e.on 0).testBit b=true)):=by
 obtain⟨ys,h1,h2⟩:=rS ops [];simp only[List.nil_append,List.length_nil,Nat.zero_add]at h1 h2;rw[h1]at hb ⊢;exact h2 i o ho b hb
theorem rT {ops:List Oper} {bs:List Nat} {i:Nat} {o:Oper}:∀{l:List Oper} {j0:Nat},oz ops bs i o j0 l=true→∀k p,l[k]? =some p→i≠j0+k→∀d,p.dst=some d→o.dst≠some d∧(d∈looks ops o→ordered bs i (j0+k)=true)
 |[],j0,_,k,p,hp,_,d,_=>by simp at hp
 |q::l,j0,h,k,p,hp,bj,d,hd=>by
  simp only[oz,Bool.and_eq_true,Bool.or_eq_true,beq_iff]at h;obtain⟨h1,h2⟩:=h;cases k with
  |zero=>
   simp at hp;subst hp;rcases h1 with h1|h1
   ·exact absurd h1 bj
   ·rw[hd]at h1;simp only[Bool.and_eq_true,bne_iff_ne,Bool.or_eq_true,Bool.not_eq_true']at h1;refine⟨h1.1,fun hm=>?_⟩;rcases h1.2 with h3|h3
    ·have:(looks ops o).contains d=true:=by simpa using hm
     rw[this]at h3;cases h3
    ·exact h3
  |succ k=>
   have:=rT h2 k p (by simpa using hp) om d hd;rw[show j0+(k+1)=j0+1+k by omega];exact this
theorem uA {ops:List Oper} {bs:List Nat}:∀{l:List Oper} {i0:Nat},vn ops bs i0 l=true→∀k o,l[k]? =some o→oz ops bs (i0+k) o 0 ops=true∧∀e∈o.after.toList,Region.binds .any e=true→e.on<i0+k
 |[],i0,_,k,o,ho=>by simp at ho
 |q::l,i0,h,k,o,ho=>by
  simp only[vn,Bool.and_eq_true,List.all_eq_true,Bool.or_eq_true,Bool.not_eq_true',aR]at h;obtain⟨⟨h1,h2⟩,h3⟩:=h;cases k with
  |zero=>
   simp at ho;subst ho;refine⟨h1,fun e he hb=>?_⟩;rcases h2 e he with h4|h4
   ·rw[hb]at h4;cases h4
   ·exact h4
  |succ k=>
   have:=uA h3 k o (by simpa using ho);rw[show i0+(k+1)=i0+1+k by omega];exact this
structure nh (ops:List Oper):Prop where
 WS:∀(i:Nat) (o:Oper),ops[i]? =some o→∀e∈o.after.toList,Region.binds .any e=true→e.on<i
 one:∀(i j:Nat) (o p:Oper) (d:Tmp),ops[i]? =some o→ops[j]? =some p→i≠j→p.dst=some d→o.dst≠some d
 look:∀(i j:Nat) (o p:Oper) (d:Tmp),ops[i]? =some o→ops[j]? =some p→i≠j→p.dst=some d→d∈looks ops o→ordered (c8 ops []) i j=true
theorem Tn {ops:List Oper} (h:l7 ops=true):nh ops:=by
 have key:=fun i o ho=>uA (l:=ops) (i0:=0) h i o ho;simp only[Nat.zero_add]at key;have k2:=fun i o ho j p (hp:ops[j]? =some p)=>rT (l:=ops) (j0:=0) (key i o ho).1 j p hp;simp only[Nat.zero_add]at k2;exact⟨fun i o ho=>(key i o ho).2,fun i j o p d ho hp bj hd=>(k2 i o ho j p hp bj d hd).1,fun i j o p d ho hp bj hd hm=>(k2 i o ho j p hp bj d hd).2 hm⟩
theorem Lt {ops:List Oper} (T:nh ops):∀(j:Nat) (o:Oper),ops[j]? =some o→∀b,((c8 ops []).getD j 0).testBit b=true→b<j:=by
 intro j
 induction j using Nat.strongRecOn with
 |ind j ih=>
  intro o ho b hb;obtain⟨e,h1,h2,h3⟩:=uz ho hb;have bF:=T.WS j o ho e h1 h2;rcases h3 with rfl |⟨h3,h4⟩
  ·exact bF
  ·have hlen:j<ops.length:=(List.getElem?_eq_some_iff.1 ho).1;have:=ih e.on h3 _ (List.getElem?_eq_getElem om) b h4;omega
def wo (_:List Oper) (L:Nat→Bool) (o:Oper):Prop:=∀e∈o.after.toList,Region.binds .any e=true→L e.on=true
def qI (ops:List Oper) (L:Nat→Bool):Prop:=∀j o,ops[j]? =some o→L j=true→wo ops L o
theorem Fh {ops:List Oper} {L:Nat→Bool} (C:qI ops L):∀(j:Nat) (o:Oper),ops[j]? =some o→wo ops L o→∀b,((c8 ops []).getD j 0).testBit b=true→L b=true:=by
 intro j
 induction j using Nat.strongRecOn with
 |ind j ih=>
  intro o ho hr b hb;obtain⟨e,h1,h2,h3⟩:=uz ho hb;have hl:=hr e h1 h2;rcases h3 with rfl |⟨h3,h4⟩
  ·exact hl
  ·have hlen:j<ops.length:=(List.getElem?_eq_some_iff.1 ho).1;have h5:=List.getElem?_eq_getElem (l:=ops) (i:=e.on) om;exact ih e.on h3 _ h5 (C _ _ h5 hl) b h4
theorem fO {ops:List Oper} (T:nh ops) {L:Nat→Bool} (C:qI ops L) {i j:Nat} (Bb:i<j) {o:Oper} (ho:ops[j]? =some o) (hr:wo ops L o) (h:ordered (c8 ops []) i j=true∨ordered (c8 ops []) j i=true):L i=true:=by
 have hlen:j<ops.length:=(List.getElem?_eq_some_iff.1 ho).1;have h5:=List.getElem?_eq_getElem (l:=ops) (i:=i) om;have:((c8 ops []).getD j 0).testBit i=true:=by
  unfold ordered at h;simp only[Bool.or_eq_true]at h;rcases h with (h|h)|(h|h)
  ·exact h
  ·have:=Lt T i _ h5 j h;omega
  ·have:=Lt T i _ h5 j h;omega
  ·exact h
 exact Fh C j o ho hr i this
theorem rU {bs:List Nat} {i:Nat} {x:ee}:∀{l:List ee} {j0:Nat},cb bs i x j0 l=true→∀k y,l[k]? =some y→aV bs i x (j0+k) y=true
 |[],_,_,k,y,h=>by simp at h
 |z::l,j0,h,k,y,hy=>by
  simp only[cb,Bool.and_eq_true]at h;cases k with
  |zero=>simp at hy;subst hy;exact h.1
  |succ k=>
   have:=rU h.2 k y (by simpa using hy);rw[show j0+(k+1)=j0+1+k by omega];exact this
theorem uB {bs:List Nat}:∀{l:List ee} {i0:Nat},kZ bs i0 l=true→(∀(i:Nat) (x:ee),l[i]? =some x→lJ x=true)∧∀(i j:Nat) (x y:ee),i<j→l[i]? =some x→l[j]? =some y→aV bs (i0+i) x (i0+j) y=true
 |[],_,_=>⟨fun i x h=>by simp at h,fun i j x y _ h=>by simp at h⟩
 |z::l,i0,h=>by
  simp only[kZ,Bool.and_eq_true]at h;obtain⟨⟨h1,h2⟩,h3⟩:=h;obtain⟨k1,k2⟩:=uB h3;refine⟨fun i x hx=>?_,fun i j x y Bb hx hy=>?_⟩
  ·cases i with
   |zero=>simp at hx;subst hx;exact h1
   |succ i=>exact k1 i x (by simpa using hx)
  ·cases j with
   |zero=>omega
   |succ j=>
    cases i with
    |zero=>
     simp at hx;subst hx;have:=rU h2 j y (by simpa using hy);rw[show i0+(j+1)=i0+1+j by omega];exact this
    |succ i=>
     have:=k2 i j x y om (by simpa using hx) (by simpa using hy);rw[show i0+(i+1)=i0+1+i by omega,show i0+(j+1)=i0+1+j by omega];exact this
variable {all ops:List Oper} {fs:Nat→AF} {hs:Nat→ab} {vs:Nat→Value} {lg:Nat→ee}
theorem Trace.To (T:Trace E base cf rf all ops fs hs vs lg):∀k,k≤ops.length→(fs k).n=(fs 0).n:=by
 intro k
 induction k with
 |zero=>intro _;rfl
 |succ k ih=>
  intro hk;rw[T.put k _ (List.getElem?_eq_getElem om),AF.Rs,ih om]
theorem AF.bE (f:AF) (d:Option Tmp) (v:Value) (t:Nat):(f.put d v).get t=if d=some t∧t<f.n then v else f.get t:=by
 cases d with
 |none=>simp[AF.put]
 |some d=>
  simp only[AF.put,AF.gQ,Option.some.injEq];by_cases e:t=d
  ·subst e;simp
  ·have:d≠t:=fun h=>e h.symm;simp[e,this]
theorem Trace.Lu (T:Trace E base cf rf all ops fs hs vs lg) (t:Nat):∀k,k≤ops.length→(∀j o,j<k→ops[j]? =some o→o.dst≠some t)→(fs k).get t=(fs 0).get t:=by
 intro k
 induction k with
 |zero=>intro _ _;rfl
 |succ k ih=>
  intro hk Cl;rw[T.put k _ (List.getElem?_eq_getElem om),AF.bE,if_neg (fun h=>Cl k _ om (List.getElem?_eq_getElem om) h.1),ih om fun j o hj ho=>Cl j o om ho]
theorem Trace.Lv (T:Trace E base cf rf all ops fs hs vs lg) (X:nh ops) {t:Nat} (ht:t<(fs 0).n) {j:Nat} {o:Oper} (ho:ops[j]? =some o) (hd:o.dst=some t):∀k,k≤ops.length→j<k→(fs k).get t=vs j:=by
 intro k
 induction k with
 |zero=>intro _ h;omega
 |succ k ih=>
  intro hk WT;have IW:=List.getElem?_eq_getElem (l:=ops) (i:=k) om;rw[T.put k _ IW,AF.bE];by_cases e:j=k
  ·subst e;rw[IW]at ho;cases ho;rw[if_pos ⟨hd,by rw[T.To j om];exact ht⟩]
  ·rw[if_neg (fun h=>X.one k j _ o t IW ho (fun h=>e h.symm) hd h.1),ih om om]
end
section
variable {P:Program} {E:Env} {μ:bn} {f:AF} {a:Act} {base B:Nat} {h:ab} {w:World} {cf:fD} {rf:eP}
theorem Ps (hE:bw P E) (yO:jQ P E base B cf) (AY:m8 P E base B rf) (AZ:m9 E cf) (A0:kB rf) {F:Fence} (hF:gV F) {n:Nat} (hf:cU μ f a.tmps) (H:bf E base B μ h w) {o:Oper} {r:SQ} (hr:eL E base cf rf o f h=some r) {a1:Act} (hex:execOp a1.eval o=execOp a.eval o)
 {next:Act→World→Prop} {Q:Exit→Act→World→Prop} (hn:∀aS v' w',aq aS r.v v'→Step E base B μ h w aS r.h w'→next (a1.put o.dst v') w'):o.wpIn F n P a1 w next Q:=by
 have hg:gk E μ:=H.dv;refine⟨fun _ _=>hF.fn _,?_⟩;rw[Oper.semAt_eq _ _ _ (AX hr),hex];unfold eL at hr;split at hr
 ·rename_i v hp;simp only[Option.some.injEq]at hr;subst hr;obtain⟨v',q1,q2⟩:=py hE hg hf hp;rw[q2 w];exact hn μ v' w q1 (.refl H)
 ·split at hr
  ·rename_i q hq;simp only[Option.bind_eq_some_iff,Option.some.injEq]at hr;obtain⟨v,hv,rfl⟩:=hr;obtain⟨v',q1,q2⟩:=tf hE hf H hq hv;rw[q2];exact hn μ v' w q1 (.refl H)
  ·split at hr
   ·rename_i md hd eC;simp only[Option.some.injEq]at hr;subst hr;obtain⟨o',k,hv,S⟩:=m3 hE hg hf eC;rw[S.run w];have st:=Step.alloc (o:=md.obj h.size) H (Cs.mk' w o') k (fun cs f cO aO hh=>by cases md<;>simp[Made.obj]at hh;exact⟨hh.2.1.symm,hh.2.2.1.symm⟩) (S.obj _ _ _ _ _ (gh H.fresh));exact hn _ _ _ (S.val _ _ _ (bO _ _ _)) st
   ·split at hr
    ·rename_i v h' he;simp only[Option.some.injEq]at hr;subst hr;obtain⟨aS,nx,v',w',q1,q2,q3,q4⟩:=v5 hE hf H he;rw[q1];rcases q2 with rfl |⟨rfl,rfl⟩
     ·exact hn aS v' w' q3 q4
     ·exact hn aS undef w' q3 q4
    ·rename_i g args h' he;simp only[Option.bind_eq_some_iff,Option.some.injEq]at hr;obtain⟨⟨v,h2⟩,hc,rfl⟩:=hr;have v7:=AZ _ _ _ _ hc;obtain⟨args',e,q1,q2⟩:=qC hE hf H he v7;subst e;rw[q2];refine⟨hF.ok n,(yO μ h' w g args args' v h2 hc q1 H F (n - 1) hF).mono ?_⟩;rintro e w' ⟨v',aS,rfl,k1,k2⟩;exact hn aS v' w' k1 k2
    ·rename_i l args h' he;simp only[Option.bind_eq_some_iff,Option.some.injEq]at hr;obtain⟨⟨v,h2⟩,hc,rfl⟩:=hr;obtain⟨st,p,f0,ps,iL,body,hl,hlen⟩:=A0 _ _ _ _ hc;have hh:h'=h:=by
      obtain⟨dst,op,type,pos,after,guard⟩:=o;cases op<;>simp only[c7]at he<;>first|cases he|skip
      all_goals simp only[Option.bind_eq_some_iff,Option.some.injEq,Prod.mk.injEq,aj,reduceCtorEq,false_and,and_false,exists_false]at he
      ·obtain⟨_,_,_,_,he⟩:=he;split at he
       ·split at he<;>simp at he
       ·cases he
      ·obtain⟨_,_,he⟩:=he;split at he
       ·first|(simp at he;done)|(obtain⟨_,_,he⟩:=he;simp at he;done)|(simp only[Option.bind_eq_some_iff]at he;obtain⟨_,_,he⟩:=he;cases he)
       ·try simp only[Option.bind_eq_some_iff]at he
        obtain⟨_,_,he⟩:=he;split at he
        ·simp at he
        ·simp only[Option.some.injEq,Prod.mk.injEq]at he;exact he.2.symm
        ·cases he
       ·cases he
     subst hh;obtain⟨m,args',lo,_,hb,hw,q1,q2,q3⟩:=qE (P:=P) hf H he hl hlen;rw[q2];refine⟨hF.ok n,(AY μ h' w l args v h2 m f0 ps iL body st p lo.fn _ hc hl hb H (na q3 q1) F (n - 1) hF).mono ?_⟩;rintro e w' ⟨v',aS,rfl,k1,k2⟩;exact hn aS v' w' k1 k2
    ·cases hr
def cut (μ:bn) (s:Nat):bn:=fun b=>if b<s then μ b else none
theorem dD {μ:bn} {s b:Nat} {m:MT}:cut μ s b=some m↔b<s∧μ b=some m:=by
 unfold cut;split<;>simp[*]
theorem gF {μ aS:bn} (h:μ.le aS) {s t:Nat} (hs:s≤t):(cut μ s).le (cut aS t):=fun b m hb=>by
 have:=dD.1 hb;exact dD.2 ⟨om,h _ _ this.2⟩
theorem Lx {jk μ:bn} (h:jk.le μ) {s:Nat} (hd:∀b m,jk b=some m→b<s):jk.le (cut μ s):=fun b m hb=>dD.2 ⟨hd b m hb,h b m hb⟩
theorem bf.Ly (H:bf E base B μ h w) {o:e8} (ko:∀cs f cO aO,o= .cells cs f cO aO→f=h.size):bf E base B μ (h.push o) w:=by
 refine⟨fun b m hb=>?_,fun c hc=>?_,fun c m hc=>?_,H.own,fun b1 b2 m1 m2 oC rA hr bj Ci=>?_,fun c m r hc hr=>?_,H.dv,H.low,?_,fun b cs f cO aO hb=>?_,fun c m cs aO hc hg=>?_⟩
 ·have:=H.gg b m hb;simp only[ab.size_push];omega
 ·simp only[ab.size_push]at hc;rw[ab.ao,if_neg om];exact H.high c om
 ·have h1:=H.gg c m hc;obtain⟨p,p',k1,k2,k3⟩:=H.obj c m hc;exact⟨p,p',by rw[ab.ao,if_neg om];exact k1,k2,k3.mono μ.le_refl (by rw[eB H.wf o h1];exact id)⟩
 ·have h1:=H.gg _ _ oC;have k1:=H.gg _ _ rA;obtain⟨r,q1,q2,q3⟩:=H.alias b1 b2 m1 m2 oC rA hr bj Ci;exact⟨r,by rw[jt H.wf o h1];exact q1,by rw[jt H.wf o k1];exact q2,by rw[mY o h1,mY o k1];exact q3⟩
 ·rw[jt H.wf o (H.gg _ _ hc)]at hr;exact H.dA c m r hc hr
 ·have:=H.l8;simp only[ab.size_push];omega
 ·rw[ab.ao]at hb;by_cases e:b=h.size
  ·rw[if_pos e,Option.some.injEq]at hb;have:=ko _ _ _ _ hb;omega
  ·rw[if_neg e]at hb;exact H.wf _ _ _ _ _ hb
 ·have:=H.gg c m hc;rw[ab.ao,if_neg om]at hg;exact H.root c m cs aO hc hg
theorem bf.Hf (H:bf E base B μ h w) {b:Nat} {o:e8} {o':Obj} {m:MT} (hb:b<h.size) (hg:h.get b=some o) (hn:μ b=none) (br:base≤b) (hB:B≤m.r) (hw:w.heap[m.r]? =some o')
 (wq:∀c mc,μ c=some mc→mc.r≠m.r) (ko:∀cs f cO aO,o= .cells cs f cO aO→f=b∧b≤cO) (Wp:∀cs aO,o= .cells cs b b aO→m.s=0) (ho:iM (kl μ b m) h base b m o o'):bf E base B (kl μ b m) h w:=by
 have hle:μ.le (kl μ b m):=gh hn;have kR:∀{c:Nat} {mc:MT},kl μ b m c=some mc→(c=b∧mc=m)∨(c≠b∧μ c=some mc):=by
  intro c mc hc;by_cases e:c=b
  ·subst e;rw[bO]at hc;cases hc;exact .inl ⟨rfl,rfl⟩
  ·rw[oB _ _ e]at hc;exact .inr ⟨e,hc⟩
 refine⟨fun c mc hc=>?_,H.high,fun c mc hc=>?_,fun c mc hc hcb=>?_,fun b1 b2 m1 m2 oC rA hr bj Ci=>?_,fun c mc r hc hr=>?_,fun g Tp=>?_,H.low,H.l8,H.wf,fun c mc cs aO hc tz=>?_⟩
 ·rcases kR hc with⟨rfl,_⟩|⟨_,h2⟩
  ·exact hb
  ·exact H.gg _ _ h2
 ·rcases kR hc with⟨rfl,rfl⟩|⟨_,h2⟩
  ·exact⟨o,o',hg,hw,ho⟩
  ·obtain⟨p,p',k1,k2,k3⟩:=H.obj c mc h2;exact⟨p,p',k1,k2,k3.mono hle id⟩
 ·rcases kR hc with⟨rfl,rfl⟩|⟨_,h2⟩
  ·exact hB
  ·exact H.own c mc h2 hcb
 ·rcases kR oC with⟨rfl,rfl⟩|⟨_,h2⟩<;>rcases kR rA with⟨rfl,rfl⟩|⟨_,k2⟩
  ·exact absurd rfl bj
  ·exact absurd hr.symm (wq _ _ k2)
  ·exact absurd hr (wq _ _ h2)
  ·exact H.alias b1 b2 m1 m2 h2 k2 hr bj Ci
 ·rcases kR hc with⟨rfl,rfl⟩|⟨_,h2⟩
  ·obtain⟨cs,t,th,h1⟩:=dQ hr;obtain⟨c0,h2⟩:=bI hr;rw[hg,Option.some.injEq]at h1;obtain⟨e1,e2⟩:=ko _ _ _ _ h1;rw[e1,hg,h1,Option.some.injEq,e8.cells.injEq]at h2;exact⟨om,om,mc,by rw[e1,bO]⟩
  ·obtain⟨q1,q2,m',q3⟩:=H.dA c mc r h2 hr;exact⟨q1,q2,m',hle _ _ q3⟩
 ·obtain⟨mc,q1,q2⟩:=H.dv g Tp;exact⟨mc,hle _ _ q1,q2⟩
 ·rcases kR hc with⟨rfl,rfl⟩|⟨_,h2⟩
  ·rw[hg,Option.some.injEq]at tz;exact Wp cs aO tz
  ·exact H.root c mc cs aO h2 tz
theorem Hg {a b:Value} (h:js a b=true):a=b:=by
 unfold js at h;split at h
 ·simpa using h
 ·simp only[Bool.and_eq_true,beq_iff_eq]at h;rw[h.1,h.2]
 ·simp only[beq_iff_eq]at h;exact congrArg _ (ByteArray.ext (Array.ext' h))
 ·simp only[beq_iff_eq]at h;rw[h]
 ·simp only[Bool.and_eq_true,beq_iff_eq,beq_iff]at h;rw[h.1.1,h.1.2,h.2]
 ·simp only[beq_iff_eq]at h;rw[h]
 ·simp only[beq_iff_eq]at h;rw[h]
 ·rfl
 ·rfl
 ·simp only[Bool.and_eq_true,beq_iff_eq,beq_iff]at h;rw[h.1.1,h.1.2,h.2]
 ·simp only[Bool.and_eq_true,beq_iff]at h;obtain⟨⟨⟨⟨h0,h1⟩,h2⟩,h3⟩,h4⟩:=h;rw[h0,Array.eq_empty_of_size_eq_zero h1,Array.eq_empty_of_size_eq_zero h2,Array.eq_empty_of_size_eq_zero h3,Array.eq_empty_of_size_eq_zero h4]
 ·cases h
theorem pB:∀{a b:List Value},fZ a b=true→a=b
 |[],[],_=>rfl
 |x::a,y::b,h=>by
  simp only[fZ,Bool.and_eq_true]at h;rw[Hg h.1,pB h.2]
 |[],_::_,h=>by simp[fZ]at h
 |_::_,[],h=>by simp[fZ]at h
theorem LA {a b:Value} (h:Ch a b=true):a=b:=by
 unfold Ch at h;split at h
 ·rw[Array.ext' (pB h)]
 ·exact Hg h
theorem Bc:∀{a b:List MapEntry},vP a b=true→a=b
 |[],[],_=>rfl
 |x::a,y::b,h=>by
  simp only[vP,Bool.and_eq_true,beq_iff]at h;obtain⟨⟨⟨h1,h2⟩,h3⟩,h4⟩:=h;rw[Bc h4];obtain⟨k,v,n⟩:=x;obtain⟨k',v',n'⟩:=y;simp only at h1 h2 h3;rw[LA h1,LA h2,h3]
 |[],_::_,h=>by simp[vP]at h
 |_::_,[],h=>by simp[vP]at h
theorem Fi {h h':ab} {q:RQ} (hs:fx h h' q=true) (hb:q.dw<h.size):q.run h'=q.run h:=by
 unfold fx at hs;rw[Bool.or_eq_true]at hs;rcases hs with hs|hs;rotate_left
 ·have:h=h':=of_decide_eq_true (inst:=Classical.propDecidable _) hs;rw[this]
 unfold kY at hs;rw[aR.2 hb]at hs;cases q with
 |cells agg b o n=>
  simp only[cond_true]at hs;simp only[RQ.run];split at hs
  ·rename_i l l' h1 h2;rw[h1,h2,pB hs]
  ·cases hs
 |look r kd k z ok=>
  simp only[cond_true]at hs;simp only[RQ.run];split at hs
  ·rename_i l l' h1 h2;rw[h1,h2];simp only[Option.bind_some];rw[Bc hs]
  ·cases hs
 |len r=>
  simp only[cond_true]at hs;simp only[RQ.run];split at hs
  ·rename_i l l' h1 h2;rw[h1,h2];simp only[Option.bind_some];rw[Bc hs]
  ·cases hs
theorem LB {h:ab} {q:RQ} {o:e8} (hs:qu h q=true) (hb:q.dw<h.size):q.run (h.push o)=q.run h:=by
 unfold qu at hs;rw[aR.2 hb]at hs;simp only[cond_true]at hs;have hg:(h.push o).get q.dw=h.get q.dw:=by rw[ab.ao,if_neg om]
 cases q with
 |cells agg b o' n=>
  simp only[RQ.dw]at hs hb hg;have hf:(h.push o).dA b=h.dA b:=by
   unfold ab.dA;rw[hg];split
   ·rename_i cs f cO aO he;rw[he]at hs;simp only[aR]at hs;rw[ab.ao,if_neg om]
   ·rfl
  simp only[RQ.run,ae,ab.rd,hf,ab.cellsOf,hg]
 |look r kd k z ok=>
  simp only[RQ.dw]at hg;simp only[RQ.run,eO,hg]
 |len r=>
  simp only[RQ.dw]at hg;simp only[RQ.run,eO,hg]
end
end Go.M
