/-
  Part 3 of the library that the proof leans on.
-/
import Derived.Test.YtjklkjjfnipcnaaGreatDoorL2
import Derived.Lib.ConvBytes
import Derived.Laws.BytesString
import Derived.RangeFuncLeaves
import Derived.LoopNIn
import Derived.RangeFuncCalls
import Derived.OrdersIn
noncomputable section
namespace Go.M
open Go
section
variable {P:Program} {E:Env} {μ:aS} {f:AF} {a:Act} {base B:Nat} {h:ab} {w:World}
theorem ub:∀{l:List Value} {ns:List Int},Gj l=some ns→l=ns.map (Value.int .u8)
 |[],ns,h=>by simp[Gj]at h;subst h;rfl
 |v::l,ns,h=>by
  cases v<;>try(simp[Gj]at h;done)
  rename_i k n;cases k<;>try(simp[Gj]at h;done)
  simp only[Gj,Option.bind_eq_some_iff,Option.some.injEq]at h;obtain⟨r,h1,rfl⟩:=h;rw[ub h1];rfl
theorem uc (ns:List Int):ns.foldl (fun r n=>r.push (UInt8.ofNat n.toNat)) ByteArray.empty=strOf ns:=by
 have key:∀(ns:List Int) (s:ByteArray),ns.foldl (fun r n=>r.push (UInt8.ofNat n.toNat)) s=⟨s.data++(ns.map fun n=>UInt8.ofNat n.toNat).toArray⟩:=by
  intro ns
  induction ns with
  |nil=>intro s;simp
  |cons n ns ih=>
   intro s;rw[List.foldl_cons,ih];simp[ByteArray.push]
 rw[key];unfold strOf;simp[ByteArray.empty,ByteArray.emptyWithCapacity]
 try rfl
theorem ao.scalars {μ:aS} {l l':List Value} (h:ao μ l l'):l.all scalar=true→l=l':=by
 induction h with
 |nil=>intro _;rfl
 |cons h _ ih=>
  intro hs;simp only[List.all_cons,Bool.and_eq_true]at hs;rw[h.an hs.1,ih hs.2]
theorem tn {d:TypeDesc} (h:B5 d=true):d= .int .u8:=by
 unfold B5 at h;split at h
 ·rfl
 ·cases h
theorem Step.cA {w':World} (H:aM E base B μ h w) {b:Nat} {m:MT} (hb:μ b=some m) (aY:base≤b) {c:Array Value} {e:TypeId} {fr Gm:Nat×Nat} (iq:w.heap[m.r]? =some (.cells c e fr)) (hf:mC Gm c.size) (hu:wT w m.r (.cells c e Gm) w'):Step E base B μ h w μ h w':=by
 refine⟨⟨H.dZ,H.high,fun b' m' bE=>?_,H.own,H.alias,H.cW,H.cd,by rw[hu.size];exact H.low,H.jx,H.wf,H.root⟩,⟨hu.tape,hu.os,hu.output,by rw[hu.size];exact Nat.le_refl _,fun r hr hk=>?_⟩,μ.le_refl,(fun c mc h0 hc=>by rw[h0]at hc;cases hc),fun _ _ _=>rfl,Nat.le_refl _⟩
 ·obtain⟨o,o',k1,k2,k3⟩:=H.obj b' m' bE;by_cases er:m'.r=m.r
  ·rw[er,iq]at k2;cases k2;refine⟨o,.cells c e Gm,k1,by rw[er,hu.get,if_pos rfl],?_⟩;cases k3 with
   |cells hn hl ph hc=>exact .cells hn hl (fun _=>by rw[←hn];exact hf) hc
   |gK hp hs hc hn=>exact .gK hp hs hc hn
  ·exact⟨o,o',k1,by rw[hu.get,if_neg er];exact k2,k3⟩
 ·rw[hu.get,if_neg];intro e;have:=hk b m hb e.symm;omega
theorem run_mark (w:World) {r:Nat} {off:Nat} {c:Array Value} {e:TypeId} {fr:Nat×Nat} (iq:w.heap[r]? =some (.cells c e fr)) (u8 src:TypeId) (hs:P.underlying src=some (.slice u8)) (he:P.underlying u8=some (.int .u8)) (len cap:Nat):
 ∃w',(convert src src (.slice (some ⟨r,off,none⟩) len cap)).run P w= .ok (.slice (some ⟨r,off,none⟩) len cap) w'∧wT w r (.cells c e (if fr.1==fr.2 then(c.size,c.size+1)else(min fr.1 c.size,max fr.2 (c.size+1)))) w':=by
 have Sx:w.shape? r=some (e,c.size):=by simp[World.shape?,iq]
 refine⟨w.freeze ⟨r,c.size,none⟩ 1,?_,?_⟩
 ·simp[convert,run_underlying hs,run_underlying he,markStringish,Sx]
 ·have bO:r<w.heap.size:=(Array.getElem?_eq_some_iff.1 iq).1;refine⟨by simp[World.freeze],by simp[World.freeze],by simp[World.freeze],by simp[World.freeze],fun k=>?_⟩;by_cases ek:k=r
  ·subst ek;rw[if_pos rfl];simp[World.freeze,Array.getElem?_modify,iq]
  ·rw[if_neg ek];simp[World.freeze,Array.getElem?_modify,Ne.symm ek]
theorem GU (hE:aU P E) (H:aM E base B μ h w) {s d:TypeId} {x x' v:Value} {h':ab} (ha:iN E base h s d x=some (v,h')) (hx:ak μ x x'):iQ P E base B μ h w (convert s d x') v h':=by
 unfold iN at ha;simp only[Option.bind_eq_some_iff]at ha;obtain⟨sd,hs,dd,hd,ha⟩:=ha;split at ha
 ·rename_i e str;simp only[Option.bind_eq_some_iff,ae,Option.some.injEq]at ha;obtain⟨ed,he,hu,ha⟩:=ha;cases tn hu;cases hx.an rfl;have bH:=Lib.run_convert_string_bytes (P:=P) w s d e str (hE.desc s _ hs) (hE.desc d _ hd) (hE.desc e _ he);have cI:(Lib.bytesCells w e str).size=grownCap w str.size 0 e:=by
   have:str.size≤grownCap w str.size 0 e:=by simp[grownCap,Question.cut]
   simp[Lib.bytesCells];have e:str.data.size=str.size:=rfl;omega
  have hle:str.size≤grownCap w str.size 0 e:=by simp[grownCap,Question.cut]
  let N:=grownCap w str.size 0 e
  have dx:yi w (.cells (Lib.bytesCells w e str) e (N,N+1)) (Lib.bytesWorld w e str):=by
   refine⟨by simp[Lib.bytesWorld,World.freeze,World.alloc,World.drew,-World.alloc_eq,-World.drew_eq],by simp[Lib.bytesWorld,World.freeze,World.alloc,World.drew,-World.alloc_eq,-World.drew_eq],by simp[Lib.bytesWorld,World.freeze,World.alloc,World.drew,-World.alloc_eq,-World.drew_eq],Lib.bytesWorld_size w e str,fun k=>?_⟩;by_cases ek:k=w.heap.size
   ·subst ek;rw[if_pos rfl,Lib.bytesWorld_at_new,cI]
   ·rw[if_neg ek];rcases Nat.lt_or_ge k w.heap.size with h1|h1
    ·exact Lib.bytesWorld_at_old w e str k h1
    ·rw[Array.getElem?_eq_none h1,Array.getElem?_eq_none (by rw[Lib.bytesWorld_size];omega)]
  have Ca:∀(i:Nat) u,(dX str)[i]? =some u→∃u',(Lib.bytesCells w e str)[i]? =some u'∧∀az,ak az u u':=by
   intro i u hu;have hi:=(List.getElem?_eq_some_iff.1 hu).1;refine⟨u,?_,fun az=>?_⟩
   ·unfold Lib.bytesCells;rw[Array.getElem?_append_left (by simpa[dX]using hi),←Array.getElem?_toList,Array.toList_map];exact hu
   ·simp only[dX,List.getElem?_map,Option.map_eq_some_iff]at hu;obtain⟨b,_,rfl⟩:=hu;exact .int _ _ _
  have st:=Step.alloc H dx N (o:=.cells (dX str) h.size h.size 0) (fun cs f cp aE hh=>by cases hh;exact⟨rfl,rfl⟩) (by
   refine .cells cI (by simp[dX];exact hle) (fun _=>GD N) fun _ i u hu=>?_;obtain⟨u',q1,q2⟩:=Ca i u hu;exact⟨u',by simpa using q1,q2 _⟩)
  have e1:fresh h (dX str) 1 str.size=(.slice (some ⟨h.size,0,some 1⟩) str.size (str.size+1),h.push (.cells (dX str) h.size h.size 0)):=rfl;rw[e1]at ha;obtain⟨rfl,rfl⟩:=Prod.mk.inj ha;refine⟨_,_,_,bH,?_,st⟩;have:=ak.slice (o:=0) (z:=1) (len:=str.size) (cap:=str.size+1) (cap':=N) (bc μ h.size ⟨w.heap.size,0,N⟩) om hle (fun h=>by omega) (by simp);simpa using this
 ·rename_i e b o z len cap;simp only[Option.bind_eq_some_iff,ae,Bool.and_eq_true,beq_iff,ax,aF]at ha;obtain⟨ed,he,⟨⟨⟨⟨hu,J0⟩,aY⟩,fj⟩,qB⟩,ha⟩:=ha;cases tn hu;subst J0;split at ha
  ·rename_i e2;rw[hs]at hd;cases hd;simp only[Option.some.injEq,Prod.mk.injEq]at ha;obtain⟨rfl,rfl⟩:=ha;obtain⟨cs,oi⟩:=Option.isSome_iff_exists.1 fj;generalize hq:Value.slice (some ⟨b,o,some z⟩) len cap=q at hx;cases hx with
   |slice hb k1 k2 k3 k4=>
    cases hq;obtain⟨c,e',fr,q1,q2,q3,q4,q5⟩:=H.read hb oi;obtain⟨w',r1,r2⟩:=run_mark (P:=P) w q1 e s (hE.desc s _ hs) (hE.desc e _ he) _ _;refine⟨μ,_,w',r1,.slice hb k1 k2 k3 k4,Step.cA H hb aY q1 ?_ r2⟩;have:=q4 aY;rw[←q2]at this;exact this.mark
   |bU hb=>
    cases hq;omega
   |lit hh=>subst hq;simp[ar]at hh
   |_=>cases hq
  ·cases ha
 ·rename_i a len cap;split at ha
  ·rename_i e;simp only[Option.bind_eq_some_iff,ae]at ha;obtain⟨ed,he,hu,ha⟩:=ha;cases tn hu;have conv:=fun(a':Option Addr) (c' l':Nat)=>run_convert_bytes_string (P:=P) w s d e a' l' c' (hE.desc s _ hs) (hE.desc e _ he) (hE.desc d _ hd)
   have fin:∀(ns:List Int) (ad:Addr) (l' c':Nat),x'= .slice (some ad) l' c'→(loadCells ad l').run P w= .ok (ns.map (Value.int .u8)).toArray w→iQ P E base B μ h w (convert s d x') (.string (strOf ns)) h:=by
    intro ns ad l' c' ex Sy;refine⟨μ,_,w,by rw[ex,conv,run_bytesToString w ad l' c' ns Sy,uc],.string μ _,.refl H⟩
   rw[bB]at ha;split at ha
   ·rename_i h0;rw[beq_iff]at h0;subst h0;simp only[Option.some.injEq,Prod.mk.injEq]at ha;obtain⟨rfl,rfl⟩:=ha;generalize hq:Value.slice a 0 cap=q at hx;cases hx with
    |slice hb k1 k2 k3 k4=>cases hq;exact fin [] _ _ _ rfl (by simp[loadCells,loadCellsFrom])
    |bU hb=>cases hq;exact fin [] _ _ _ rfl (by simp[loadCells,loadCellsFrom])
    |lit hh=>
     subst hq;cases a with
     |none=>exact⟨μ,_,w,by rw[conv];simp[Conv.bytesToString];rfl,.string μ _,.refl H⟩
     |some a=>simp[ar]at hh
    |_=>cases hq
   simp only[Option.bind_eq_some_iff,Option.some.injEq,Prod.mk.injEq]at ha;obtain⟨l,hl,ns,tX,rfl,rfl⟩:=ha;have el:=ub tX;unfold dC at hl;split at hl
   ·rename_i b o z EB JZ ex;cases ex;generalize hq:Value.slice (some ⟨b,o,some z⟩) len cap=q at hx;cases hx with
    |slice hb k1 k2 k3 k4=>
     rename_i m;cases hq;obtain⟨l',r1,r2⟩:=H.tY hb hl;have ud:=(H.ah hb hl).1;have e2:l'=ns.map (Value.int .u8):=by
      have:=ao.scalars r1 (by
       rw[el,List.all_eq_true];intro v hv;obtain⟨n,_,rfl⟩:=List.mem_map.1 hv;rfl)
      rw[←el,this]
     refine fin ns _ _ _ rfl ?_;simp only[loadCells];have zG:l'.length=len:=by rw[←r1.length,ud];omega
     rw[run_loadCells len 0 #[] l' zG (fun k v hv=>by rw[eM];have:=r2 k v hv;simpa[World.cell?]using this)];simp[e2]
    |bU hb=>
     cases hq;have:=oj (by simpa using hl);subst this;simp[Gj]at tX;subst tX;exact fin [] _ _ _ rfl (by simp[loadCells,loadCellsFrom])
    |lit hh=>subst hq;simp[ar]at hh
    |_=>cases hq
   ·rename_i EB JZ ex;cases ex;simp only[Option.some.injEq]at hl;subst hl;simp[Gj]at tX;subst tX;cases hx with
    |lit hh=>
     refine⟨μ,_,w,by rw[conv];simp[Conv.bytesToString];rfl,.string μ _,.refl H⟩
   ·rename_i ex;cases ex
   ·cases hl
  ·cases ha
 ·cases ha
end
section
variable {P:Program} {E:Env} {μ:aS} {f:AF} {a:Act} {base B:Nat} {h:ab} {w:World}
theorem yv {a b:ByteArray} (h:(a==b)=true):a=b:=by
 rw[beq_toListBytes,ByteArray.toList_eq,ByteArray.toList_eq]at h;have:=eq_of_beq h;obtain⟨⟨x⟩⟩:=a;obtain⟨⟨y⟩⟩:=b;simp at this;rw[this]
def Pt (nx:Next) (v':Value):Prop:=nx= .value v'∨(nx= .skip∧v'=undef)
set_option maxHeartbeats 1000000 in
set_option maxHeartbeats 1000000 in
theorem ue (hE:aU P E) (hf:bw μ f a.tmps) (H:aM E base B μ h w) {o:Oper} {v:Value} {h':ab} (ha:bT E base f o h=some (.val v,h')):
 ∃az nx v' w',(execOp a.eval o).run P w= .ok nx w'∧Pt nx v'∧ak az v v'∧Step E base B μ h w az h' w':=by
 have hg:eE E μ:=H.cd;obtain⟨dst,op,type,pos,after,guard⟩:=o;cases op
 case store t x y=>
  simp only[bT,Option.bind_eq_some_iff,ae,Bool.and_eq_true,beq_iff,Option.some.injEq,Prod.mk.injEq,iL.val.injEq]at ha;obtain⟨av,h1,v1,h2,n,h3,p,h4,⟨h5,jE⟩,cs,fj,cs',gN,h6,EA,rfl,rfl⟩:=ha;have e:=jB h4;subst e;obtain⟨m,hb,ex⟩:=(aL hg hf h1).jd;have hv:=aL hg hf h2;obtain⟨w',q1,q2⟩:=qN (P:=P) H hb fj gN EA hv.cells jE;refine⟨μ,.skip,undef,w',?_,.inr ⟨rfl,rfl⟩,.undef μ,q2⟩;have cI:(a.eval y).cells.size=n:=by rw[←hv.tQ];exact h5
  simp only[execOp,Instr.storeAt,Sem.run_bind,ex,Instr.sureAddr,Sem.run_pure,Result.andThen_ok,storeVar,eL hE h3 w];rw[if_neg (by simpa using cI)];simp only[q1,Result.andThen_ok]
 case mapUpdate t mm kk x|insert t mm kk x=>
  simp only[bT,Option.bind_eq_some_iff,Option.some.injEq,Prod.mk.injEq,iL.val.injEq]at ha;obtain⟨mv,h1,k,h2,v1,h3,h4,h5,rfl,rfl⟩:=ha;unfold lf at h5;simp only[Option.bind_eq_some_iff]at h5;obtain⟨d,hd,h5⟩:=h5;split at h5
  ·rename_i kt et r;simp only[Option.bind_eq_some_iff,ae,Bool.and_eq_true,ax]at h5;obtain⟨kd,hH,⟨⟨aY,bA⟩,pJ⟩,h5⟩:=h5;split at h5
   ·rename_i es clock GS;obtain⟨m,hb,ex⟩:=(aL hg hf h1).jZ;have ek:=(aL hg hf h2).an pJ;have hv:=aL hg hf h3;obtain⟨o1,o2,k1,k2,k3⟩:=H.obj r m hb;rw[GS]at k1;cases k1;cases k3 with
    |map hs=>
     rename_i bC;simp only[Option.bind_eq_some_iff]at h5;obtain⟨fr,Ez,h5⟩:=h5;obtain⟨Gm,q1,q2,q3⟩:=iu hs Ez;have Ey:(Instr.findKey kt k bC.toList).run P w= .ok Gm w:=by
      simp only[Instr.findKey,Sem.run_bind,aA hE hH w,Result.andThen_ok,q1,Sem.run_pure]
     have zE:=jC (P:=P) hE hH bA false 9999 k w;have nB:=run_getObj_map (P:=P) k2 (fun _ _ _=>by simp);have GQ:=fun o=>bj (P:=P) (o:=o) k2 (fun _ _ _=>by simp);have UM:ak μ k k:=.nz μ pJ;cases fr with
     |none=>
      have e:=q2 rfl;subst e;simp only[Option.some.injEq]at h5;subst h5;have st:=Step.put (o:=.map (es++[{key:=k,val:=v1,born:=clock}]) (clock+1)) H hb aY GS rfl rfl (wT.set w m.r (.map (bC.push {key:=k,val:=a.eval x,born:=clock}) (clock+1)) (H.lt hb)) (.map (by
       simpa using hs.append (bX.cons (e:={key:=k,val:=v1,born:=clock}) (e':={key:=k,val:=a.eval x,born:=clock}) UM hv rfl .nil)))
      refine⟨μ,.skip,undef,_,?_,.inr ⟨rfl,rfl⟩,.undef μ,st⟩;simp only[execOp,Instr.mapUpdate,Sem.run_bind,aA hE hd w,Result.andThen_ok,ex,ek,nB,zE,Ey,GQ];rfl
     |some jv=>
      obtain⟨v',e,hr⟩:=q3 jv.1 jv.2 rfl;subst e;simp only[Option.some.injEq]at h5;subst h5;have VP:Instr.sameBits 10000 (((bC[jv.1]?).map (·.key)).getD k) k=true:=by
       have hh:∀{es:List MapEntry} {i j:Nat} {v:Value},Instr.findNow kd k es i=some (some (j,v))→∃e,es[j - i]? =some e∧e.key=k∧i≤j:=by
        intro es
        induction es with
        |nil=>intro i j v hq;simp[Instr.findNow]at hq
        |cons e0 X4 ih=>
         intro i j v hq;simp only[Instr.findNow]at hq;split at hq
         ·rename_i GV;simp only[Option.some.injEq,Prod.mk.injEq]at hq;obtain⟨rfl,_⟩:=hq;refine⟨e0,by simp,?_,Nat.le_refl _⟩;unfold Instr.sameNow at GV;split at GV
          ·rename_i z1;split at GV
           ·rename_i z2;subst z2;simp only[Option.some.injEq,beq_iff_eq]at GV;rw[z1,GV]
           ·cases GV
          ·rename_i z1;simp only[Option.some.injEq]at GV;rw[z1,yv GV]
          ·rename_i z1;simp only[Option.some.injEq,beq_iff_eq]at GV;rw[z1,GV]
          ·cases GV
         ·obtain⟨e1,p1,p2,p3⟩:=ih hq;refine⟨e1,?_,p2,om⟩;have:j - i=(j - (i+1))+1:=by omega
          rw[this];simpa using p1
         ·cases hq
       obtain⟨e1,p1,p2,_⟩:=hh q1;have VQ:bC[jv.1]? =some e1:=by simpa using p1
       rw[VQ];simp only[Option.map_some,Option.getD_some,p2];cases k<;>simp[scalar]at pJ<;>first|(simp[Instr.sameBits];done)|(simp only[Instr.sameBits];rw[beq_toListBytes];simp)
      have st:=Step.put (o:=.map (es.modify jv.1 fun e=>{e with key:=k,val:=v1}) clock) H hb aY GS rfl rfl (wT.set w m.r (.map (bC.modify jv.1 fun e=>{e with key:=k,val:=a.eval x}) clock) (H.lt hb)) (.map (by
       have:=hs.modify (g:=fun e=>{e with key:=k,val:=v1}) (g':=fun e=>{e with key:=k,val:=a.eval x}) (fun e e' _ _ hb=>⟨UM,hv,hb⟩) jv.1;simpa using this))
      refine⟨μ,.skip,undef,_,?_,.inr ⟨rfl,rfl⟩,.undef μ,st⟩;simp only[execOp,Instr.mapUpdate,Sem.run_bind,aA hE hd w,Result.andThen_ok,ex,ek,nB,zE,Ey];unfold Instr.keyThatStays;rw[VP];simp only[if_true,Sem.run_pure,Result.andThen_ok,GQ]
   ·cases h5
  ·cases h5
 case range t x=>
  simp only[bT,Option.bind_eq_some_iff]at ha;obtain⟨d,hd,v1,h1,ha⟩:=ha;split at ha
  ·rename_i kt et r;split at ha
   ·rename_i es clock GS;simp only[Option.some.injEq,Prod.mk.injEq,iL.val.injEq]at ha;obtain⟨rfl,rfl⟩:=ha;obtain⟨m,hb,ex⟩:=(aL hg hf h1).jZ;obtain⟨o1,o2,k1,k2,k3⟩:=H.obj r m hb;rw[GS]at k1;cases k1;cases k3 with
    |map hs=>
     have nB:=run_getObj_map (P:=P) k2 (fun _ _ _=>by simp);have hle:μ.le (il μ h.size ⟨w.heap.size,0,0⟩):=dO H.fresh;have st:=Step.alloc (o:=.bM (some r) clock [] clock) H (yi.mk' w (.mapIter (some m.r) clock #[] clock)) 0 (fun _ _ _ _ hh=>by cases hh) (by
      have:=fR.bM (μ:=il μ h.size ⟨w.heap.size,0,0⟩) (h:=h.push (.bM (some r) clock [] clock)) (base:=base) (b:=h.size) (m:=⟨w.heap.size,0,0⟩) (since:=clock) (last:=clock) (seen:=[]) (hle _ _ hb) rfl;simpa using this)
     refine⟨_,_,.pointer (some ⟨w.heap.size,0,none⟩),_,?_,.inl rfl,?_,st⟩
     ·simp only[execOp,Instr.range,Sem.run_bind,aA hE hd w,Result.andThen_ok,ex,nB,Sem.run_pure,run_newObj]
     ·have:=ak.ptr (o:=0) (bc μ h.size ⟨w.heap.size,0,0⟩);simpa using this
   ·cases ha
  ·cases ha
 case convert sT d x=>
  simp only[bT,Option.bind_eq_some_iff,Option.some.injEq,Prod.mk.injEq,iL.val.injEq]at ha;obtain⟨v1,h1,⟨v2,yh⟩,h3,rfl,rfl⟩:=ha;obtain⟨az,v',w',q1,q2,q3⟩:=GU (P:=P) hE H h3 (aL hg hf h1);refine⟨az,.value v',v',w',?_,.inl rfl,q2,q3⟩;simp only[execOp,Sem.run_bind,q1,Result.andThen_ok,Sem.run_pure]
 case next it isStr=>
  simp only[bT,Option.bind_eq_some_iff,Option.some.injEq,Prod.mk.injEq,iL.val.injEq]at ha;obtain⟨v1,h1,r,h2,⟨v2,yh⟩,h3,rfl,rfl⟩:=ha;have e:=mI h2;subst e;obtain⟨m,hb,ex⟩:=(aL hg hf h1).jd;have fI:m.s=0:=by
   obtain⟨o1,o2,k1,k2,k3⟩:=H.obj r m hb;unfold Dq at h3;simp only[ae]at h3;cases k3 with
   |gD hs=>exact hs
   |kp hs=>exact hs
   |bM _ hs=>exact hs
   |_=>rw[k1]at h3;simp at h3
  obtain⟨az,v',w',q1,q2,q3⟩:=GR (P:=P) H type h3 hb;refine⟨az,.value v',v',w',?_,.inl rfl,q2,q3⟩;rw[fI]at ex;simp only[execOp,Sem.run_bind,ex,q1,Result.andThen_ok,Sem.run_pure]
 case entry it=>
  simp only[bT,Option.bind_eq_some_iff,Option.some.injEq,Prod.mk.injEq,iL.val.injEq]at ha;obtain⟨v1,h1,r,h2,v2,h3,rfl,rfl⟩:=ha;have e:=mI h2;subst e;obtain⟨m,hb,ex⟩:=(aL hg hf h1).jd;have fI:m.s=0:=by
   obtain⟨o1,o2,k1,k2,k3⟩:=H.obj r m hb;unfold iM at h3;cases k3 with
   |gD hs=>exact hs
   |kp hs=>exact hs
   |bM _ hs=>exact hs
   |_=>rw[k1]at h3;simp at h3
  obtain⟨v',q1,q2⟩:=EE (P:=P) H h3 hb;refine⟨μ,.value v',v',w,?_,.inl rfl,q1,.refl H⟩;rw[fI]at ex;simp only[execOp,Sem.run_bind,ex,q2,Result.andThen_ok,Sem.run_pure]
 case call c=>
  simp only[bT,Option.bind_eq_some_iff]at ha;obtain⟨args,h1,ha⟩:=ha;have hr:=jf hg hf h1;split at ha
  ·rename_i b yr;simp only[Option.bind_eq_some_iff,Option.some.injEq,Prod.mk.injEq,iL.val.injEq]at ha;obtain⟨⟨v1,tf⟩,h2,rfl,rfl⟩:=ha;obtain⟨s,⟨az,v',w',q1,q2,q3⟩,hs⟩:=Ce hE H (ts:=c.argTypes) (args':=c.args.map a.eval) type h2 (by simpa using hr);refine⟨az,.value v',v',w',?_,.inl rfl,q2,q3⟩;simp only[execOp,resolve,yr,Sem.run_bind,Sem.run_pure,Result.andThen_ok,invoke];rw[hs _];simp only[Sem.run_bind,q1,Result.andThen_ok,Sem.run_pure]
  ·simp only[Option.bind_eq_some_iff]at ha;obtain⟨g,_,ha⟩:=ha;split at ha<;>simp at ha
  ·cases ha
 all_goals(simp only[bT]at ha;cases ha)
theorem ly (hE:aU P E) (hf:bw μ f a.tmps) (H:aM E base B μ h w) {o:Oper} {g:FuncId} {args:List Value} {h':ab} (ha:bT E base f o h=some (.enter g args,h')) (oP:(E.func g).isSome=true):
 ∃args':Array Value,h'=h∧ao μ args args'.toList∧(execOp a.eval o).run P w= .ok (.enter g args') w:=by
 have hg:eE E μ:=H.cd;obtain⟨dst,op,type,pos,after,guard⟩:=o;cases op
 case call c=>
  simp only[bT,Option.bind_eq_some_iff]at ha;obtain⟨VS,h1,ha⟩:=ha;have hr:=jf hg hf h1;split at ha
  ·simp only[Option.bind_eq_some_iff,Option.some.injEq,Prod.mk.injEq]at ha;obtain⟨_,_,h2,_⟩:=ha;cases h2
  ·rename_i gx yr;simp only[Option.bind_eq_some_iff]at ha;obtain⟨gv,h2,ha⟩:=ha;split at ha
   ·rename_i gid first captured
    simp only[Option.some.injEq,Prod.mk.injEq,iL.enter.injEq]at ha;obtain⟨⟨rfl,rfl⟩,rfl⟩:=ha;have pj:=aL hg hf h2;generalize hq:a.eval gx=q at pj;cases pj with
    |lit hh=>simp[ar]at hh
    |func q1 q2 q3 q4=>
     rename_i dP bF;refine⟨dP++c.args.map a.eval++bF,rfl,?_,?_⟩
     ·simp only[Array.toList_append,Array.toList_map];exact((ao.gL q1 q2).append hr).append (ao.gL q3 q4)
     ·obtain⟨fn,Gn⟩:=Option.isSome_iff_exists.1 oP;obtain⟨f1,f2,f3⟩:=hE.func _ _ Gn;have hb:fn.body.isNone=false:=by cases hx:fn.body<;>simp_all
      simp only[execOp,resolve,yr,Sem.run_bind,Sem.run_pure,Result.andThen_ok,hq,Deferred.ofValue,invoke,callFunc,run_program,f1,f3,hb,Bool.false_eq_true,if_false]
   ·simp at ha
   ·cases ha
  ·cases ha
 all_goals(simp only[bT]at ha;first|cases ha|(simp only[Option.bind_eq_some_iff,Option.some.injEq,Prod.mk.injEq,ae,reduceCtorEq,false_and,and_false,exists_false]at ha)|skip)
 case range t x=>
  obtain⟨_,_,_,_,ha⟩:=ha;split at ha
  ·split at ha<;>simp at ha
  ·cases ha
theorem lz (hf:bw μ f a.tmps) (H:aM E base B μ h w) {o:Oper} {l:Nat} {args:List Value} {h':ab} (ha:bT E base f o h=some (.round l args,h')) {st:LoopState} {p:Option Code} {f0:AF} {ps:List Tmp} {c7 body:Code}
 (hl:h.get l=some (.loop st p f0 ps c7 body)) (hlen:ps.length=args.length):
 ∃(m:MT) (args':List Value) (lo:Loop),h'=h∧μ l=some m∧w.heap[m.r]? =some (.loop lo)∧ao μ args args'∧
  (execOp a.eval o).run P w= .ok (.round m.r lo.fn ((ps.zip args').foldl (fun tmps (t,a)=>tmps.setIfInBounds t a) lo.tmps) c7 body) w∧bw μ f0 lo.tmps:=by
 have hg:eE E μ:=H.cd;obtain⟨dst,op,type,pos,after,guard⟩:=o;cases op
 case call c=>
  simp only[bT,Option.bind_eq_some_iff]at ha;obtain⟨VS,h1,ha⟩:=ha;have hr:=jf hg hf h1;split at ha
  ·simp only[Option.bind_eq_some_iff,Option.some.injEq,Prod.mk.injEq]at ha;obtain⟨_,_,h2,_⟩:=ha;cases h2
  ·rename_i gx yr;simp only[Option.bind_eq_some_iff]at ha;obtain⟨gv,h2,ha⟩:=ha;split at ha
   ·simp at ha
   ·rename_i l0 first captured
    simp only[Option.some.injEq,Prod.mk.injEq,iL.round.injEq]at ha;obtain⟨⟨rfl,rfl⟩,rfl⟩:=ha;have pj:=aL hg hf h2;generalize hq:a.eval gx=q at pj;cases pj with
    |lit hh=>simp[ar]at hh
    |yield hb=>
     rename_i m;obtain⟨o1,o2,k1,k2,k3⟩:=H.obj l0 m hb;rw[hl]at k1;cases k1;cases k3 with
     |loop Ez=>
      rename_i fn tmps d;have nB:=run_getObj_map (P:=P) k2 (fun _ _ _=>by simp);refine⟨m,c.args.toList.map a.eval,_,rfl,hb,k2,by simpa using hr,?_,Ez⟩;have zG:=hr.length;have cI:(c.args.map a.eval).size=ps.toArray.size:=by
       simp at hlen zG ⊢;omega
      simp only[execOp,resolve,yr,Sem.run_bind,Sem.run_pure,Result.andThen_ok,hq,Deferred.ofValue,invoke,Instr.yield,Instr.getLoop,nB];rw[if_neg (by simpa using cI)];have ez:(ps.toArray.zip (#[]++c.args.map a.eval))=(ps.zip (c.args.toList.map a.eval)).toArray:=by
       apply Array.ext';simp
      simp only[ez,Sem.run_pure,List.foldl_toArray]
   ·cases ha
  ·cases ha
 all_goals(simp only[bT]at ha;first|cases ha|(simp only[Option.bind_eq_some_iff,Option.some.injEq,Prod.mk.injEq,ae,reduceCtorEq,false_and,and_false,exists_false]at ha)|skip)
 case range t x=>
  obtain⟨_,_,_,_,ha⟩:=ha;split at ha
  ·split at ha<;>simp at ha
  ·cases ha
end
structure c4 (F:Fence):Prop where
 fn:∀f,F.fn f
 depth:F.depth=none
 dead:F.alive=false
theorem c4.inRound {F:Fence} (h:c4 F) (l:Nat):c4 (F.inRound l):=⟨h.fn,h.depth,h.dead⟩
theorem c4.plain {F:Fence} (h:c4 F):c4 F.plain:=⟨h.fn,h.depth,h.dead⟩
theorem c4.wide:c4 Fence.wide:=⟨fun _=>trivial,rfl,rfl⟩
theorem c4.ok {F:Fence} (h:c4 F) (n:Nat):F.depth.isSome=true→1≤n:=by rw[h.depth];intro h;simp at h
def fA (E:Env) (base B:Nat) (μ:aS) (h:ab) (w:World) (v:Value) (h':ab):Ending→World→Prop:=
 fun e w'=>∃v' az,e= .returned v'∧ak az v v'∧Step E base B μ h w az h' w'
def iR (P:Program) (E:Env) (base B:Nat) (cf:dn):Prop:=
 ∀(μ:aS) (h:ab) (w:World) (g:FuncId) (args:List Value) (args':Array Value) (v:Value) (h':ab),cf g args h=some (v,h')→ao μ args args'.toList→aM E base B μ h w→
  ∀(F:Fence) (n:Nat),c4 F→CallsIn F n P g args' w (fA E base B μ h w v h')
def hZ (P:Program) (E:Env) (base B:Nat) (rf:cP):Prop:=
 ∀(μ:aS) (h:ab) (w:World) (l:Nat) (args:List Value) (v:Value) (h':ab) (m:MT) (f0:AF) (ps:List Tmp) (c7 body:Code) (st:LoopState) (p:Option Code) (fn:FuncId) (tmps:Array Value),
  rf l args h=some (v,h')→h.get l=some (.loop st p f0 ps c7 body)→μ l=some m→aM E base B μ h w→bw μ (AF.fT (ps.zip args) f0) tmps→
  ∀(F:Fence) (n:Nat),c4 F→RoundIn F n P m.r fn tmps c7 body w (fA E base B μ h w v h')
def ia (E:Env) (cf:dn):Prop:=∀g args h r,cf g args h=some r→(E.func g).isSome=true
def fm (rf:cP):Prop:=∀l args h r,rf l args h=some r→∃st p f0 ps c7 body,h.get l=some (.loop st p f0 ps c7 body)∧ps.length=args.length
section
variable {P:Program} {E:Env} {μ:aS} {f:AF} {a:Act} {base B:Nat} {h:ab} {w:World} {cf:dn} {rf:cP}
theorem jF {μ:aS}:∀{ps:List Tmp} {args args':List Value} {f:AF} {tmps:Array Value},bw μ f tmps→ao μ args args'→bw μ (AF.fT (ps.zip args) f) ((ps.zip args').foldl (fun tmps (t,a)=>tmps.setIfInBounds t a) tmps)
 |[],args,args',f,tmps,hf,_=>by simpa[AF.fT]using hf
 |p::ps,_,_,f,tmps,hf,.nil=>by simpa[AF.fT]using hf
 |p::ps,_,_,f,tmps,hf,.cons hv ht=>by
  simp only[List.zip_cons_cons,AF.fT,List.foldl_cons];exact jF (hf.set hv p) ht
theorem yw {o:Oper} {r:GB} (h:cV E base cf rf o f h=some r):∀c,o.op≠ .defer c:=by
 intro c hc;unfold cV at h;simp only[aB,ba,aP,bT,hc]at h;cases h
theorem Cg (hE:aU P E) (sR:iR P E base B cf) (uf:hZ P E base B rf) (j6:ia E cf) (j7:fm rf) {F:Fence} (hF:c4 F) {n:Nat} (hf:bw μ f a.tmps) (H:aM E base B μ h w) {o:Oper} {r:GB} (hr:cV E base cf rf o f h=some r)
 {next:Act→World→Prop} {Q:Exit→Act→World→Prop} (hn:∀az v' w',ak az r.v v'→Step E base B μ h w az r.h w'→next (a.put o.dst v') w'):o.wpIn F n P a w next Q:=by
 have hg:eE E μ:=H.cd;refine⟨fun _ _=>hF.fn _,?_⟩;rw[Oper.semAt_eq _ _ _ (yw hr)];unfold cV at hr;split at hr
 ·rename_i v hp;simp only[Option.some.injEq]at hr;subst hr;obtain⟨v',q1,q2⟩:=nA hE hg hf hp;rw[q2 w];exact hn μ v' w q1 (.refl H)
 ·split at hr
  ·rename_i q hq;simp only[Option.bind_eq_some_iff,Option.some.injEq]at hr;obtain⟨v,hv,rfl⟩:=hr;obtain⟨v',q1,q2⟩:=qM hE hf H hq hv;rw[q2];exact hn μ v' w q1 (.refl H)
  ·split at hr
   ·rename_i md hd dx;simp only[Option.some.injEq]at hr;subst hr;obtain⟨o',k,hv,S⟩:=lr hE hg hf dx;rw[S.run w];have st:=Step.alloc (o:=md.obj h.size) H (yi.mk' w o') k (fun cs f cp aE hh=>by cases md<;>simp[Made.obj]at hh;exact⟨hh.2.1.symm,hh.2.2.1.symm⟩) (S.obj _ _ _ _ _ (dO H.fresh));exact hn _ _ _ (S.val _ _ _ (bc _ _ _)) st
   ·split at hr
    ·rename_i v h' he;simp only[Option.some.injEq]at hr;subst hr;obtain⟨az,nx,v',w',q1,q2,q3,q4⟩:=ue hE hf H he;rw[q1];rcases q2 with rfl |⟨rfl,rfl⟩
     ·exact hn az v' w' q3 q4
     ·exact hn az undef w' q3 q4
    ·rename_i g args h' he;simp only[Option.bind_eq_some_iff,Option.some.injEq]at hr;obtain⟨⟨v,h2⟩,hc,rfl⟩:=hr;have oP:=j6 _ _ _ _ hc;obtain⟨args',e,q1,q2⟩:=ly hE hf H he oP;subst e;rw[q2];refine⟨hF.ok n,(sR μ h' w g args args' v h2 hc q1 H F (n - 1) hF).mono ?_⟩;rintro e w' ⟨v',az,rfl,k1,k2⟩;exact hn az v' w' k1 k2
    ·rename_i l args h' he;simp only[Option.bind_eq_some_iff,Option.some.injEq]at hr;obtain⟨⟨v,h2⟩,hc,rfl⟩:=hr;obtain⟨st,p,f0,ps,c7,body,hl,hlen⟩:=j7 _ _ _ _ hc;have hh:h'=h:=by
      obtain⟨dst,op,type,pos,after,guard⟩:=o;cases op<;>simp only[bT]at he<;>first|cases he|skip
      all_goals simp only[Option.bind_eq_some_iff,Option.some.injEq,Prod.mk.injEq,ae,reduceCtorEq,false_and,and_false,exists_false]at he
      ·obtain⟨_,_,_,_,he⟩:=he;split at he
       ·split at he<;>simp at he
       ·cases he
      ·obtain⟨_,_,he⟩:=he;split at he
       ·first|(simp at he;done)|(obtain⟨_,_,he⟩:=he;simp at he;done)|(simp only[Option.bind_eq_some_iff]at he;obtain⟨_,_,he⟩:=he;cases he)
       ·try simp only[Option.bind_eq_some_iff]at he
        obtain⟨_,_,he⟩:=he;split at he
        ·simp at he
        ·simp only[Option.some.injEq,Prod.mk.injEq]at he;exact he.2.symm
        ·cases he
       ·cases he
     subst hh;obtain⟨m,args',lo,_,hb,hw,q1,q2,q3⟩:=lz (P:=P) hf H he hl hlen;rw[q2];refine⟨hF.ok n,(uf μ h' w l args v h2 m f0 ps c7 body st p lo.fn _ hc hl hb H (jF q3 q1) F (n - 1) hF).mono ?_⟩;rintro e w' ⟨v',az,rfl,k1,k2⟩;exact hn az v' w' k1 k2
    ·cases hr
theorem gO {ops:Array Oper} (hf:bw μ f a.tmps) (o:Oper):Region.wanted o (yielded ops a.tmps)=wanted ops.toList o f:=by
 unfold Region.wanted wanted;cases UN:o.guard with
 |none=>rfl
 |some jw=>
  obtain⟨j,want⟩:=jw;simp only
  unfold yielded;have e:ops.toList[j]? =ops[j]? :=by simp
  rw[e];cases ht:(ops[j]?).bind (·.dst)with
  |none=>simp
  |some t=>
   simp only[Option.bind_some];have hv:=hf.get t;by_cases bO:t<a.tmps.size
   ·have e2:a.tmps.getD t undef=a.tmps[t]:=by simp[bO]
    rw[e2]at hv;rw[Array.getElem?_eq_getElem bO];generalize a.tmps[t]=u at hv;generalize f.get t=c at hv;cases hv with
    |lit hh=>cases u<;>simp
    |ye hh=>rcases hh with rfl |⟨_,_,rfl⟩<;>rfl
    |_=>rfl
   ·have e2:a.tmps.getD t undef=undef:=by simp[bO]
    rw[e2]at hv;have e3:a.tmps[t]? =none:=Array.getElem?_eq_none (Nat.le_of_not_lt bO);rw[e3];generalize f.get t=c at hv;unfold undef at hv;cases hv with
    |lit hh=>simp[ar]at hh
    |ye hh=>rcases hh with hh|⟨_,_,hh⟩<;>cases hh
    |tuple _ _=>rfl
theorem yx (hE:aU P E) (sR:iR P E base B cf) (uf:hZ P E base B rf) (j6:ia E cf) (j7:fm rf) {F:Fence} (hF:c4 F) {n:Nat} {ops:Array Oper} {Q:Exit→Act→World→Prop}:∀(rest:List Oper) (k:Nat) (μ:aS) (f:AF) (h:ab) (a:Act) (w:World) (f':AF) (h':ab),
 (∀j,rest[j]? =ops[k+j]?)→sP E base cf rf ops.toList rest f h=some (f',h')→bw μ f a.tmps→aM E base B μ h w→
 (∀az a' w',bw az f' a'.tmps→a'.defers=a.defers→Step E base B μ h w az h' w'→Q .normal a' w')→wpOpsIn F n P ops Q (List.range' k rest.length) a w
 |[],k,μ,f,h,a,w,f',h',_,ha,hf,H,hQ=>by
  simp only[sP,Option.some.injEq,Prod.mk.injEq]at ha;obtain⟨rfl,rfl⟩:=ha;exact hQ μ a w hf rfl (.refl H)
 |o::rest,k,μ,f,h,a,w,f',h',hk,ha,hf,H,hQ=>by
  have h0:ops[k]? =some o:=by simpa using(hk 0).symm
  have l6:∀j,rest[j]? =ops[k+1+j]? :=fun j=>by have:=hk (j+1);simpa[Nat.add_assoc,Nat.add_comm 1 j]using this
  simp only[List.length_cons,List.range'_succ,wpOpsIn,h0,gO hf];simp only[sP]at ha;split at ha
  ·rename_i hw;rw[if_pos hw];simp only[Option.bind_eq_some_iff]at ha;obtain⟨r,hr,ha⟩:=ha;refine Cg hE sR uf j6 j7 hF hf H hr fun az v' w' q1 q2=>?_;refine yx hE sR uf j6 j7 hF rest (k+1) az (f.put o.dst r.v) r.h _ w' f' h' l6 ha ((hf.mono q2.le).put q1 o.dst) q2.rel fun od a2 w2 p1 p2 p3=>?_;exact hQ od a2 w2 p1 (by rw[p2];cases o.dst<;>rfl) (q2.trans p3)
  ·rename_i hw;rw[if_neg (by rw[hw];simp)];refine⟨fun _ _=>hF.fn _,?_⟩;refine yx hE sR uf j6 j7 hF rest (k+1) μ (f.put o.dst undef) h _ w f' h' l6 ha (hf.put (.undef μ) o.dst) H fun od a2 w2 p1 p2 p3=>?_;exact hQ od a2 w2 p1 (by rw[p2];cases o.dst<;>rfl) p3
end
def fC:Ex→Exit
 | .normal=>.normal
 | .exit id=>.exit id
 | .ret=>.ret
structure oQ (W0:Nat) (μ:aS) (w:World) (d:Deferred) (r:Nat):Prop where
 tg:d.target= .collected r
 obj:w.heap[r]? =some (.deferred (some []))
 apart:∀b m,μ b=some m→m.r≠r
 new:W0≤r
inductive a8 (W0:Nat) (μ:aS) (w:World):List Deferred→List Nat→Prop
 |nil:a8 W0 μ w [] []
 |cons {d:Deferred} {r:Nat} {ds:List Deferred} {rs:List Nat} (h:oQ W0 μ w d r) (hn:r∉rs) (t:a8 W0 μ w ds rs):a8 W0 μ w (d::ds) (r::rs)
section
variable {P:Program} {E:Env} {base B:Nat}
theorem oQ.step {W0:Nat} {μ az:aS} {h h':ab} {w w':World} {d:Deferred} {r:Nat} (k:oQ W0 μ w d r) (s:Step E base B μ h w az h' w'):oQ W0 az w' d r:=by
 have bO:r<w.heap.size:=(Array.getElem?_eq_some_iff.1 k.obj).1;refine⟨k.tg,?_,?_,k.new⟩
 ·rw[s.grow.bf r bO (fun b m hb hr=>absurd hr (k.apart b m hb))];exact k.obj
 ·intro b m hb hr;cases h0:μ b with
  |some m0=>
   have:=s.le b m0 h0;rw[hb]at this;cases this;exact k.apart b m h0 hr
  |none=>
   obtain⟨_,_,h3⟩:=s.new b m h0 hb;rcases h3 with h3|⟨b0,m0,_,h4,h5⟩
   ·omega
   ·exact k.apart b0 m0 h4 (h5.trans hr)
theorem a8.step {W0:Nat} {μ az:aS} {h h':ab} {w w':World} {ds:List Deferred} {rs:List Nat} (k:a8 W0 μ w ds rs) (s:Step E base B μ h w az h' w'):a8 W0 az w' ds rs:=by
 induction k with
 |nil=>exact .nil
 |cons h hn _ ih=>exact .cons (h.step s) hn ih
theorem aM.apart {μ:aS} {h:ab} {w w':World} (H:aM E base B μ h w) {r:Nat} {o:Obj} (hu:wT w r o w') (ha:∀b m,μ b=some m→m.r≠r):aM E base B μ h w':=
 ⟨H.dZ,H.high,fun b m hb=>by
  obtain⟨p,p',k1,k2,k3⟩:=H.obj b m hb;exact⟨p,p',k1,by rw[hu.get,if_neg (ha b m hb)];exact k2,k3⟩,H.own,H.alias,H.cW,H.cd,by rw[hu.size];exact H.low,H.jx,H.wf,H.root⟩
theorem Step.apart {μ az:aS} {h h':ab} {w w1 w2:World} (s:Step E base B μ h w az h' w1) {r:Nat} {o:Obj} (hu:wT w1 r o w2) (ha:∀b m,az b=some m→m.r≠r) (hn:w.heap.size≤r):Step E base B μ h w az h' w2:=
 ⟨s.rel.apart hu ha,⟨hu.tape.trans s.grow.tape,hu.os.trans s.grow.os,hu.output.trans s.grow.output,by rw[hu.size];exact s.grow.size,fun k hk hh=>by rw[hu.get,if_neg om];exact s.grow.bf k hk hh⟩,s.le,s.new,s.zC,s.cI⟩
theorem aM.Sz {μ:aS} {h:ab} {w w':World} (H:aM E base B μ h w) {o:Obj} (ha:yi w o w'):aM E base B μ h w':=
 ⟨H.dZ,H.high,fun b m hb=>by
  obtain⟨p,p',k1,k2,k3⟩:=H.obj b m hb;have:=H.lt hb;exact⟨p,p',k1,by rw[ha.get,if_neg om];exact k2,k3⟩,H.own,H.alias,H.cW,H.cd,by rw[ha.size];have:=H.low;omega,H.jx,H.wf,H.root⟩
theorem Step.Mu {μ:aS} {h:ab} {w w':World} (H:aM E base B μ h w) {o:Obj} (ha:yi w o w'):Step E base B μ h w μ h w':=
 ⟨H.Sz ha,⟨ha.tape,ha.os,ha.output,by rw[ha.size];omega,fun r hr _=>by rw[ha.get,if_neg om]⟩,μ.le_refl,fun b m h0 h1=>by simp[h0]at h1,fun _ _ _=>rfl,Nat.le_refl _⟩
theorem iw (hE:aU P E) {μ:aS} {f:AF} {h:ab} {w:World} {tmps:Array Value} {fn:Func} {vs:List Value} (hf:bw μ f tmps) (H:aM E base B μ h w) (hr:bx E h f fn.results.toList=some vs):
 ∃v',(results fn tmps).run P w= .ok v' w∧ak μ (aZ vs) v':=by
 have key:∀(l:List ResultVar) (vs:List Value),bx E h f l=some vs→∃mF,ao μ vs mF∧(l.mapM (m:=Sem) fun
  | .tmp t=>pure (tmps.getD t undef)
  | .cell a t=>do loadVar t (←asAddr (tmps.getD a undef))).run P w= .ok mF w:=by
  intro l
  induction l with
  |nil=>intro vs hv;simp only[bx,Option.some.injEq]at hv;subst hv;exact⟨[],.nil,by simp⟩
  |cons x l ih=>
   intro vs hv;cases x with
   |tmp t=>
    simp only[bx,Option.bind_eq_some_iff,Option.some.injEq]at hv;obtain⟨SA,h1,rfl⟩:=hv;obtain⟨mF,r1,r2⟩:=ih SA h1;exact⟨tmps.getD t undef::mF,.cons (hf.get t) r1,by simp only[List.mapM_cons,Sem.run_bind,Sem.run_pure,Result.andThen_ok,r2]⟩
   |cell a t=>
    simp only[bx,Option.bind_eq_some_iff,Option.some.injEq]at hv;obtain⟨p,h1,⟨ag,n⟩,h2,c,h3,v,h4,SA,h5,rfl⟩:=hv;have ha:=hf.get a;rw[jB h1]at ha;obtain⟨m,hb,ex⟩:=ha.jd;obtain⟨l',r1,r2⟩:=H.tY hb h3;obtain⟨v',q1,q2⟩:=gZ h4 r1;have hl:l'.length=n:=by rw[←r1.length];exact(H.ah hb h3).1
    obtain⟨mF,s1,s2⟩:=ih SA h5;refine⟨v'::mF,.cons q2 s1,?_⟩;have lv:=mG (P:=P) hE h2 hl r2 q1;have SB:(asAddr (tmps.getD a undef)).run P w= .ok ⟨m.r,m.s+p.2,none⟩ w:=by rw[ex];rfl
    rw[List.mapM_cons];simp only[Sem.run_bind,SB,Sem.run_pure,Result.andThen_ok,lv];rw[s2];rfl
 obtain⟨mF,r1,r2⟩:=key _ _ hr
 have hm:(fn.results.mapM (m:=Sem) fun
  | .tmp t=>pure (tmps.getD t undef)
  | .cell a t=>do loadVar t (←asAddr (tmps.getD a undef))).run P w= .ok mF.toArray w:=by
  rw[Array.mapM_eq_mapM_toList];simp only[Sem.run_map,r2,Result.andThen_ok]
 have kr:(results fn tmps).run P w= .ok (if h:mF.toArray.size=1 then mF.toArray[0]else .tuple mF.toArray) w:=by
  show Sem.run P (do
   let us ←fn.results.mapM (m:=Sem) fun
    | .tmp t=>pure (tmps.getD t undef)
    | .cell a t=>do loadVar t (←asAddr (tmps.getD a undef))
   pure (if h:us.size=1 then us[0]else .tuple us)) w=_
  rw[Sem.run_bind,hm];rfl
 refine⟨_,kr,?_⟩;cases r1 with
 |nil=>exact .cq (by simpa using ao.nil)
 |cons hv ht=>cases ht with
  |nil=>simpa[aZ]using hv
  |cons EF ht=>simp only[aZ];exact .cq (by simpa using ao.cons hv (.cons EF ht))
theorem lA {F:Fence} {n:Nat} {fn:Func} {tmps:Array Value} {R:Ending→World→Prop} {eo μ:aS} {h0 h:ab} {w0:World}:∀(ds:List Deferred) (rs:List Nat) (w:World),a8 w0.heap.size μ w ds rs→Step E base B eo h0 w0 μ h w→
 (∀w',Step E base B eo h0 w0 μ h w'→∃v,(results fn tmps).run P w'= .ok v w'∧R (.returned v) w')→LeavesInM F n P fn tmps R ds .returning w
 |[],_,w,_,s,hR=>hR w s
 |d::ds,_,w,.cons (r:=r) (rs:=rs) hk hn ht,s,hR=>by
  refine⟨by simp,.inl ⟨r,{w with heap:=w.heap.setIfInBounds r (.deferred none)},hk.tg,?_,?_⟩⟩
  ·unfold Instr.takeDeferred;simp only[Sem.run_bind,run_getObj_map (P:=P) hk.obj (fun _ _ _=>by simp),Result.andThen_ok,bj (P:=P) hk.obj (fun _ _ _=>by simp),Sem.run_pure]
  ·have bO:r<w.heap.size:=(Array.getElem?_eq_some_iff.1 hk.obj).1;have hu:=wT.set w r (.deferred none) bO;refine lA ds rs _ ?_ (s.apart hu hk.apart hk.new) hR;have:∀{ds:List Deferred} {rs:List Nat},a8 w0.heap.size μ w ds rs→r∉rs→a8 w0.heap.size μ {w with heap:=w.heap.setIfInBounds r (.deferred none)} ds rs:=by
    intro ds rs k
    induction k with
    |nil=>intro _;exact .nil
    |cons h1 h2 _ ih=>
     intro Ad;simp only[List.mem_cons,not_or]at Ad;exact .cons ⟨h1.tg,by rw[hu.get,if_neg (fun e=>Ad.1 e.symm)];exact h1.obj,h1.apart,h1.new⟩ h2 (ih Ad.2)
   exact this ht hn
def yz (P:Program) (E:Env) (base B:Nat):Prop:=
 ∀(cf:dn) (rf:cP),iR P E base B cf→hZ P E base B rf→ia E cf→fm rf→∀(ops:Array Oper) (f:AF) (h:ab) (f':AF) (h':ab) (fD:List cg),
  dY ops.toList=true→dM f.n ops.toList=true→fY E base cf rf ops.toList ops.toList f h=some (f',h',fD)→fv (a6 ops.toList []) 0 fD=true→
  ∀(μ:aS) (a:Act) (w:World),bw μ f a.tmps→aM E base B μ h w→∀(F:Fence) (n id:Nat) (Q:Exit→Act→World→Prop),c4 F→
  (∀az a' w',bw az f' a'.tmps→a'.defers=a.defers→Step E base B μ h w az h' w'→Q .normal a' w')→(Code.region id ops true).wpIn F n P Q a w
def Ch (P:Program) (E:Env) (base B k:Nat):Prop:=
 ∀(c:Code) (f:AF) (h:ab) (ex:Ex) (f':AF) (h':ab),aT E base k c f h=some (ex,f',h')→
  ∀(μ:aS) (a:Act) (w:World) (W0:Nat) (rs:List Nat),bw μ f a.tmps→aM E base B μ h w→a8 W0 μ w a.defers rs→W0≤w.heap.size→
  ∀(F:Fence) (n:Nat) (Q:Exit→Act→World→Prop),c4 F→(F.round=none∨aj c=true)→
  (∀az a' w' Ae,bw az f' a'.tmps→a8 W0 az w' a'.defers Ae→Step E base B μ h w az h' w'→Q (fC ex) a' w')→c.wpIn F n P Q a w
theorem ug {μ:aS}:∀{args args':List Value} {i:Nat} {f:AF} {tmps:Array Value},ao μ args args'→bw μ f tmps→bw μ (AF.mr args i f) ((args'.zipIdx i).foldl (fun t p=>t.setIfInBounds p.2 p.1) tmps)
 |_,_,i,f,tmps,.nil,hf=>by simpa[AF.mr]using hf
 |_,_,i,f,tmps,.cons hv ht,hf=>by
  simp only[AF.mr,List.zipIdx_cons,List.foldl_cons];exact ug ht (hf.set hv i)
theorem jm {μ:aS} {args:List Value} {args':Array Value} {n:Nat} (hr:ao μ args args'.toList) (hn:args.length≤n):bw μ (AF.enter args n) (args'++Array.replicate (n - args'.size) undef):=by
 have hl:args.length=args'.size:=by simpa using hr.length
 have h0:bw μ ⟨.nil,n⟩ (Array.replicate n undef):=by
  refine⟨by simp,fun t=>?_⟩;have:(AF.get ⟨.nil,n⟩ t)=undef:=rfl;rw[this];by_cases h:t<n<;>simp[h]<;>exact .undef μ
 have:=ug (i:=0) hr h0;have e:((args'.toList.zipIdx 0).foldl (fun t p=>t.setIfInBounds p.2 p.1) (Array.replicate n undef))=args'++Array.replicate (n - args'.size) undef:=by
  have zf:=ym args'.toList 0 0 (Array.replicate n undef) (by simp;omega);simp only[Nat.zero_add]at zf;apply Array.ext
  ·rw[zf.1];simp;omega
  ·intro i h1 h2;have:=zf.2 i;rw[Array.getElem?_eq_getElem h1]at this;rw[←Option.some.injEq,this];by_cases hi:i<args'.size
   ·rw[if_pos (by simp;exact hi)];simp[hi]
   ·rw[if_neg (by simp;omega)];have wU:i<n:=by
     rw[zf.1]at h1;simpa using h1
    simp[hi,wU,Array.getElem_append]
 rw[←e];exact this
theorem yA (run:wj):ia E (ff E base run):=by
 intro g args h r hr;unfold ff at hr;simp only[Option.bind_eq_some_iff]at hr;obtain⟨fn,h1,_⟩:=hr;simp[h1]
theorem Af (run:wj):fm (fw base run):=by
 intro l args h r hr;unfold fw at hr;simp only[ae]at hr;obtain⟨_,hr⟩:=hr;split at hr
 ·rename_i p f ps c7 body hg;simp only[ae,Bool.and_eq_true,beq_iff]at hr;exact⟨_,_,_,_,_,_,hg,hr.1.1.1⟩
 ·cases hr
def eZ (P:Program) (E:Env) (base B:Nat):Prop:=iR P E base B (E.mn base)
theorem GW (hE:aU P E) (hO:eZ P E base B) {k:Nat} (hk:Ch P E base B k):iR P E base B (ff E base (aT E base k)):=by
 intro μ h w g args args' v h' hc hr H F n hF;unfold ff at hc;simp only[Option.bind_eq_some_iff]at hc;obtain⟨fn,h1,hc⟩:=hc;split at hc
 ·rename_i r ho;simp only[Option.some.injEq]at hc;subst hc;exact hO μ h w g args args' v h' ho hr H F n hF
 ·simp only[Option.bind_eq_some_iff,ae,ax]at hc;obtain⟨c,h2,hn,hc⟩:=hc;obtain⟨f1,f2,f3⟩:=hE.func _ _ h1
  have body:∀ex RC tf,aT E base k c (AF.enter args fn.ntmps) h=some (ex,RC,tf)→(fC ex= .normal∨fC ex= .ret)→(bx E tf RC fn.results.toList).bind (fun vs=>some (aZ vs,tf))=some (v,h')→
   CallsIn F.plain n P g args' w (fA E base B μ h w v h'):=by
   intro ex fe he bH hex kr;simp only[Option.bind_eq_some_iff,Option.some.injEq,Prod.mk.injEq]at kr;obtain⟨vs,h3,rfl,rfl⟩:=kr;refine callsIn_of_wp_marks f1 h2 (hF.fn _) ?_ rfl;refine hk c _ h ex fe he bH μ _ w w.heap.size [] (jm hr hn) H .nil (Nat.le_refl _) F.plain n _ hF.plain (.inl rfl) ?_;intro az a' w' Ae q1 q2 q3
   have lv:LeavesInM F.plain n P fn a'.tmps (fA E base B μ h w (aZ vs) he) a'.defers .returning w':=
    lA a'.defers Ae w' q2 q3 fun w2 s2=>by
     obtain⟨v',p1,p2⟩:=iw (P:=P) hE q1 s2.rel h3;exact⟨v',p1,v',az,rfl,p2,s2⟩
   rcases hex with e|e<;>rw[e]<;>exact lv
  have fin:CallsIn F.plain n P g args' w (fA E base B μ h w v h'):=by
   split at hc
   ·rename_i fe he bH;exact body _ _ _ bH (.inl rfl) hc
   ·rename_i fe he bH;exact body _ _ _ bH (.inr rfl) hc
   ·cases hc
  exact fin
end
section
variable {P:Program} {E:Env} {base B:Nat}
theorem run_getLoop {w:World} {r:Nat} {lo:Loop} (h:w.heap[r]? =some (.loop lo)):(Instr.getLoop r).run P w= .ok lo w:=by
 unfold Instr.getLoop;simp only[Sem.run_bind,run_getObj_map (P:=P) h (fun _ _ _=>by simp),Result.andThen_ok,Sem.run_pure]
theorem gg {μ:aS} {h:ab} {w:World} (H:aM E base B μ h w) {l:Nat} {m:MT} (hb:μ l=some m) (aY:base≤l) {st:LoopState} {p:Option Code} {f0:AF} {ps:List Tmp} {c7 body:Code} (hg:h.get l=some (.loop st p f0 ps c7 body)) (wY:LoopState) (p':Option Code):
 ∃lo:Loop,w.heap[m.r]? =some (.loop lo)∧lo.state=st∧lo.pending=p∧Step E base B μ h w μ (h.put l (.loop wY p' f0 ps c7 body)) {w with heap:=w.heap.setIfInBounds m.r (.loop {lo with state:=wY,pending:=p'})}:=by
 obtain⟨o1,o2,k1,k2,k3⟩:=H.obj l m hb;rw[hg]at k1;cases k1;cases k3 with
 |loop hf=>
  refine⟨_,k2,rfl,rfl,?_⟩;exact Step.put H hb aY hg rfl rfl (wT.set w m.r _ (H.lt hb)) (.loop hf)
theorem J1 {k:Nat} (hk:Ch P E base B k):hZ P E base B (fw base (aT E base k)):=by
 intro μ h w l args v h' m f0 ps c7 body st p fn tmps hr hl hb H hf F n hF;unfold fw at hr;simp only[ae,ax]at hr;obtain⟨aY,hr⟩:=hr;rw[hl]at hr;cases st with
 |ready=>
  simp only[ae,Bool.and_eq_true,beq_iff]at hr;obtain⟨⟨⟨hlen,yB⟩,k8⟩,hr⟩:=hr;split at hr
  ·rename_i f1 h1 Mv;split at hr
   ·rename_i p1 Pu td jc eH wu;simp only[Option.bind_eq_some_iff]at hr;obtain⟨⟨ex,f2,h2⟩,uh,hr⟩:=hr;simp only at hr;split at hr
    ·rename_i UO p2 Pv Pw GX Ag zG;refine roundIn_of_wpIn (hF.fn _) ?_;refine hk c7 _ h .normal f1 h1 Mv μ _ w w.heap.size [] hf H .nil (Nat.le_refl _) (F.inRound m.r) n _ (hF.inRound _) (.inr yB) ?_;intro b6 a1 w1 pK q1 q2 s1;have kL:=s1.le _ _ hb;obtain⟨Mw,e1,e2,e3,s2⟩:=gg s1.rel kL aY wu .busy p1;have Mx:Step E base B b6 h1 w1 b6 (h1.put l (.loop .busy p1 Pu td jc eH)) {w1 with heap:=w1.heap.setIfInBounds m.r (.loop {Mw with state:=.busy})}:=by
      rw[←e3]at s2 ⊢;exact s2
     refine⟨{w1 with heap:=w1.heap.setIfInBounds m.r (.loop {Mw with state:=.busy})},?_,?_⟩
     ·unfold Instr.beginRound;simp only[Sem.run_bind,run_getLoop (P:=P) e1,Result.andThen_ok,bj (P:=P) e1 (fun _ _ _=>by simp),e2,Sem.run_pure]
     refine hk body f1 _ ex f2 h2 uh b6 a1 _ w.heap.size pK q1 Mx.rel (q2.step Mx) (by rw[Array.size_setIfInBounds];exact s1.grow.size) (F.inRound m.r) n _ (hF.inRound _) (.inr k8) ?_;intro lB a3 w3 VT q3 q4 s3;have gh:=(s1.trans Mx);have BY:=s3.le _ _ kL;have key:∀(wY:LoopState) (jump:Option Code),(jump.isNone=true→wY= .ready)→(jump.isNone=false→wY= .done)→∃w4,(Instr.endRound m.r jump).run P w3= .ok (.bool jump.isNone) w4∧Step E base B lB h2 w3 lB (h2.put l (.loop wY jump Pv Pw GX Ag)) w4:=by
      intro wY jump J2 EG;obtain⟨EH,d1,d2,d3,s4⟩:=gg s3.rel BY aY zG wY jump;refine⟨_,?_,s4⟩;unfold Instr.endRound;simp only[Sem.run_bind,run_getLoop (P:=P) d1,Result.andThen_ok,bj (P:=P) d1 (fun _ _ _=>by simp),Sem.run_pure];cases hj:jump.isNone with
      |true=>rw[J2 hj];simp
      |false=>rw[EG hj];simp
     cases ex with
     |normal=>
      simp only[Option.some.injEq,Prod.mk.injEq]at hr;obtain⟨rfl,rfl⟩:=hr;obtain⟨w4,k1,k2⟩:=key .ready none (fun _=>rfl) (fun h=>by simp at h);exact⟨_,w4,k1,_,lB,rfl,.bool _ _,(gh.trans s3).trans k2⟩
     |ret=>
      simp only[Option.some.injEq,Prod.mk.injEq]at hr;obtain⟨rfl,rfl⟩:=hr;obtain⟨w4,k1,k2⟩:=key .done (some .ret) (fun h=>by simp at h) (fun _=>rfl);exact⟨_,w4,k1,_,lB,rfl,.bool _ _,(gh.trans s3).trans k2⟩
     |exit id=>
      simp only[Option.some.injEq,Prod.mk.injEq]at hr;obtain⟨rfl,rfl⟩:=hr;obtain⟨w4,k1,k2⟩:=key .done (some (.exit id)) (fun h=>by simp at h) (fun _=>rfl);exact⟨_,w4,k1,_,lB,rfl,.bool _ _,(gh.trans s3).trans k2⟩
    ·cases hr
   ·cases hr
  ·cases hr
 |busy=>cases hr
 |done=>cases hr
 |exhausted=>cases hr
theorem codeOk (hE:aU P E) (hO:eZ P E base B) (hD:yz P E base B):∀k,Ch P E base B k∧
 (∀(b:Code) (f:AF) (h:ab) (ex:Ex) (f':AF) (h':ab),aT E base k (.loop b) f h=some (ex,f',h')→
  ∀(μ:aS) (a:Act) (w:World) (W0:Nat) (rs:List Nat),bw μ f a.tmps→aM E base B μ h w→a8 W0 μ w a.defers rs→W0≤w.heap.size→
  ∀(F:Fence) (n:Nat) (Q:Exit→Act→World→Prop),c4 F→(F.round=none∨aj b=true)→
  (∀az a' w' Ae,bw az f' a'.tmps→a8 W0 az w' a'.defers Ae→Step E base B μ h w az h' w'→Q (fC ex) a' w')→Code.roundsIn F n P b Q k a w):=by
 intro k
 induction k with
 |zero=>exact⟨fun c f h ex f' h' hr=>by simp[aT]at hr,fun b f h ex f' h' hr=>by simp[aT]at hr⟩
 |succ k ih=>
  obtain⟨hk,Ah⟩:=ih;have iZ:=GW hE hO hk;have yC:=J1 hk
  have rZ:∀(b:Code) (f:AF) (h:ab) (ex:Ex) (f':AF) (h':ab),aT E base (k+1) (.loop b) f h=some (ex,f',h')→
   ∀(μ:aS) (a:Act) (w:World) (W0:Nat) (rs:List Nat),bw μ f a.tmps→aM E base B μ h w→a8 W0 μ w a.defers rs→W0≤w.heap.size→
   ∀(F:Fence) (n:Nat) (Q:Exit→Act→World→Prop),c4 F→(F.round=none∨aj b=true)→
   (∀az a' w' Ae,bw az f' a'.tmps→a8 W0 az w' a'.defers Ae→Step E base B μ h w az h' w'→Q (fC ex) a' w')→Code.roundsIn F n P b Q (k+1) a w:=by
   intro b f h ex f' h' hr μ a w W0 rs hf H hm hW F n Q hF mJ hQ;simp only[aT]at hr;rw[roundsIn_succ];split at hr
   ·rename_i f1 h1 hb;refine hk b f h .normal f1 h1 hb μ a w W0 rs hf H hm hW F n _ hF mJ fun b6 a1 w1 pK q1 q2 s1=>?_;exact Ah b f1 h1 ex f' h' hr b6 a1 w1 W0 pK q1 s1.rel q2 (Nat.le_trans hW s1.grow.size) F n Q hF mJ fun od a2 w2 My p1 p2 s2=>hQ od a2 w2 My p1 p2 (s1.trans s2)
   ·rename_i GY;refine hk b f h ex f' h' hr μ a w W0 rs hf H hm hW F n _ hF mJ fun b6 a1 w1 pK q1 q2 s1=>?_;have:=hQ b6 a1 w1 pK q1 q2 s1;cases ex with
    |normal=>exact(GY _ _ hr).elim
    |exit id=>exact this
    |ret=>exact this
  refine⟨?_,rZ⟩;intro c f h ex f' h' hr μ a w W0 rs hf H hm hW F n Q hF mJ hQ;cases c with
  |skip=>
   simp only[aT,Option.some.injEq,Prod.mk.injEq]at hr;obtain⟨rfl,rfl,rfl⟩:=hr;exact wpIn_skip (hQ μ a w rs hf hm (.refl H))
  |exit id=>
   simp only[aT,Option.some.injEq,Prod.mk.injEq]at hr;obtain⟨rfl,rfl,rfl⟩:=hr;exact wpIn_exit (hQ μ a w rs hf hm (.refl H))
  |ret=>
   simp only[aT,Option.some.injEq,Prod.mk.injEq]at hr;obtain⟨rfl,rfl,rfl⟩:=hr;exact wpIn_ret (hQ μ a w rs hf hm (.refl H))
  |seq x y=>
   simp only[aT]at hr;have hx:F.round=none∨aj x=true:=mJ.imp id fun h=>by simp[aj]at h;exact h.1
   have hy:F.round=none∨aj y=true:=mJ.imp id fun h=>by simp[aj]at h;exact h.2
   refine wpIn_seq ?_;split at hr
   ·rename_i f1 h1 hb;refine hk x f h .normal f1 h1 hb μ a w W0 rs hf H hm hW F n _ hF hx fun b6 a1 w1 pK q1 q2 s1=>?_;exact hk y f1 h1 ex f' h' hr b6 a1 w1 W0 pK q1 s1.rel q2 (Nat.le_trans hW s1.grow.size) F n Q hF hy fun od a2 w2 My p1 p2 s2=>hQ od a2 w2 My p1 p2 (s1.trans s2)
   ·rename_i GY;refine hk x f h ex f' h' hr μ a w W0 rs hf H hm hW F n _ hF hx fun b6 a1 w1 pK q1 q2 s1=>?_;have:=hQ b6 a1 w1 pK q1 q2 s1;cases ex with
    |normal=>exact(GY _ _ hr).elim
    |exit id=>exact this
    |ret=>exact this
  |cond cx x y=>
   simp only[aT,Option.bind_eq_some_iff]at hr;obtain⟨v,h1,b,h2,h3⟩:=hr;have e:=pF h2;subst e;have hc:=(aL H.cd hf h1).an rfl;have hx:F.round=none∨aj x=true:=mJ.imp id fun h=>by simp[aj]at h;exact h.1
   have hy:F.round=none∨aj y=true:=mJ.imp id fun h=>by simp[aj]at h;exact h.2
   cases b with
   |true=>exact wpIn_cond_true hc (hk x f h ex f' h' h3 μ a w W0 rs hf H hm hW F n Q hF hx hQ)
   |false=>exact wpIn_cond_false hc (hk y f h ex f' h' h3 μ a w W0 rs hf H hm hW F n Q hF hy hQ)
  |block id b=>
   simp only[aT]at hr;have bE:F.round=none∨aj b=true:=mJ.imp (fun h=>h) fun h=>by simpa[aj]using h
   refine wpIn_block ?_;split at hr
   ·rename_i jl f1 h1 hb;refine hk b f h (.exit jl) f1 h1 hb μ a w W0 rs hf H hm hW F n _ hF bE fun b6 a1 w1 pK q1 q2 s1=>?_;rw[bB]at hr;show(if jl=id then Q .normal a1 w1 else Q (.exit jl) a1 w1);by_cases e:jl=id
    ·rw[if_pos (beq_iff.2 e)]at hr;simp only[Option.some.injEq,Prod.mk.injEq]at hr;obtain⟨rfl,rfl,rfl⟩:=hr;rw[if_pos e];exact hQ b6 a1 w1 pK q1 q2 s1
    ·rw[if_neg (fun hh=>e (beq_iff.1 hh))]at hr;simp only[Option.some.injEq,Prod.mk.injEq]at hr;obtain⟨rfl,rfl,rfl⟩:=hr;rw[if_neg e];exact hQ b6 a1 w1 pK q1 q2 s1
   ·rename_i GY;refine hk b f h ex f' h' hr μ a w W0 rs hf H hm hW F n _ hF bE fun b6 a1 w1 pK q1 q2 s1=>?_;have:=hQ b6 a1 w1 pK q1 q2 s1;cases ex with
    |normal=>exact this
    |exit jl=>exact(GY _ _ _ hr).elim
    |ret=>exact this
  |loop b=>
   exact wpIn_loop_rounds (k+1) (rZ b f h ex f' h' hr μ a w W0 rs hf H hm hW F n Q hF (mJ.imp id fun h=>by simpa[aj]using h) hQ)
  |region id ops draw=>
   simp only[aT,jY]at hr;cases draw with
   |false=>
    simp only[Option.bind_eq_some_iff,Option.some.injEq,Prod.mk.injEq]at hr;obtain⟨⟨f1,h1⟩,hb,rfl,rfl,rfl⟩:=hr;refine wpIn_region ?_;have:=yx hE iZ yC (yA _) (Af _) hF (n:=n) (ops:=ops) (Q:=Q) ops.toList 0 μ f h a w f1 h1 (fun j=>by simp) hb hf H fun b6 a1 w1 q1 q2 s1=>hQ b6 a1 w1 rs q1 (by rw[q2];exact hm.step s1) s1;rw[List.range_eq_range',←Array.length_toList];exact this
   |true=>
    simp only[ae,Bool.and_eq_true,Option.bind_eq_some_iff,Option.some.injEq,Prod.mk.injEq]at hr;obtain⟨⟨hs,hd⟩,⟨f1,h1,fD⟩,hb,hp,rfl,rfl,rfl⟩:=hr;exact hD _ _ iZ yC (yA _) (Af _) ops f h f1 h1 fD hs hd hb hp μ a w hf H F n id Q hF fun b6 a1 w1 q1 q2 s1=>hQ b6 a1 w1 rs q1 (by rw[q2];exact hm.step s1) s1
  |rangeFunc g ps c7 body=>
   have iI:F.round=none:=mJ.resolve_right (by simp[aj]);simp only[aT,Option.bind_eq_some_iff,ae,ax]at hr;obtain⟨gv,h1,aY,hr⟩:=hr;split at hr
   ·rename_i gid first captured
    simp only[Option.bind_eq_some_iff]at hr;obtain⟨⟨rv,h2⟩,hc,hr⟩:=hr;simp only at hr;have pj:=aL H.cd hf h1;generalize hq:a.eval g=q at pj;cases pj with
    |lit hh=>simp[ar]at hh
    |func t1 t2 t3 t4=>
     rename_i dP bF;refine wpIn_rangeFunc fun fn _=>?_
     let wA:World:={w with heap:=w.heap.push (.deferred (some []))}
     let lo:Loop:={state:=.ready,pending:=none,fn:=fn,tmps:=a.tmps,params:=ps,assign:=c7,body:=body,defers:=w.heap.size}
     let wB:World:={wA with heap:=wA.heap.push (.loop lo)}
     have sA:Step E base B μ h w μ h wA:=Step.Mu H (yi.mk' w _);have GZ:wA.heap.size=w.heap.size+1:=by simp[wA]
     have sB:=Step.alloc (o:=.loop .ready none f ps.toList c7 body) sA.rel (yi.mk' wA (.loop lo)) 0 (fun _ _ _ _ hh=>by cases hh) (by
      have:=fR.loop (μ:=il μ h.size ⟨wA.heap.size,0,0⟩) (h:=h.push (.loop .ready none f ps.toList c7 body)) (base:=base) (b:=h.size) (m:=⟨wA.heap.size,0,0⟩) (st:=.ready) (p:=none) (ps:=ps.toList) (c7:=c7) (body:=body) (fn:=fn) (d:=w.heap.size) (hf.mono (dO H.fresh));simpa using this)
     let mk:Deferred:={target:=.collected w.heap.size,args:= #[]}
     have Dy:oQ W0 μ wA mk w.heap.size:=⟨rfl,by simp[wA],fun b m hb he=>by have:=H.lt hb;omega,hW⟩;have Ad:w.heap.size∉rs:=by
      have:∀{ds:List Deferred} {rs:List Nat},a8 W0 μ w ds rs→∀r∈rs,r<w.heap.size:=by
       intro ds rs k
       induction k with
       |nil=>intro r hr;simp at hr
       |cons h1 _ _ ih=>intro r hr;rcases List.mem_cons.1 hr with rfl |hr
                        ·exact(Array.getElem?_eq_some_iff.1 h1.obj).1
                        ·exact ih r hr
      intro jT;have:=this hm _ jT;omega
     have hmarks:a8 W0 μ wA (mk::a.defers) (w.heap.size::rs):=.cons Dy Ad (hm.step sA)
     let args':Array Value:=dP++ #[.func (.yield wA.heap.size) #[] #[]]++bF
     have oP:=yA (E:=E) _ _ _ _ _ hc;obtain⟨G0,Ci⟩:=Option.isSome_iff_exists.1 oP;obtain⟨g1,g2,g3⟩:=hE.func _ _ Ci;have Mz:G0.body.isNone=false:=by cases hx:G0.body<;>simp_all
     have gH:ao (il μ h.size ⟨wA.heap.size,0,0⟩) (first.toList++[.func (.yield h.size) #[] #[]]++captured.toList) args'.toList:=by
      have hle:μ.le (il μ h.size ⟨wA.heap.size,0,0⟩):=dO H.fresh;have v1:=(ao.gL t1 t2).mono hle;have v3:=(ao.gL t3 t4).mono hle;have v2:=ao.cons (ak.yield (bc μ h.size ⟨wA.heap.size,0,0⟩)) .nil;simpa[args']using(v1.append v2).append v3
     refine⟨wA.heap.size,[mk],wB,{target:=.fn (.func gid) bF,args:=dP++ #[.func (.yield wA.heap.size) #[] #[]]},wB,gid,args',wB,?_,?_,fun _ _=>hF.fn _,?_,hF.ok n,?_⟩
     ·rw[iI];unfold Instr.enterLoop;simp only[Sem.run_bind,run_newObj,Result.andThen_ok,Sem.run_pure];rfl
     ·have JB:∀v:Value,a.eval (.const v)=v:=fun _=>rfl;simp[resolve,hq,Deferred.ofValue,Sem.run_pure,JB]
     ·simp only[invoke,callFunc,Sem.run_bind,run_program,Result.andThen_ok,g1,g3,Mz,Bool.false_eq_true,if_false,Sem.run_pure];rfl
     ·refine(iZ _ _ wB gid _ args' rv h2 hc gH sB.rel F (n - 1) hF).mono ?_;rintro e w3 ⟨v',lB,rfl,k1,s3⟩;have BY:lB h.size=some ⟨wA.heap.size,0,0⟩:=s3.le _ _ (bc _ _ _);split at hr
      ·rename_i st p f0 zT mB ik hl;simp only[ae]at hr;obtain⟨bA,hr⟩:=hr;obtain⟨EH,d1,d2,d3,s4⟩:=gg s3.rel BY aY hl .exhausted p;have G1:Step E base B lB h2 w3 lB (h2.put h.size (.loop .exhausted p f0 zT mB ik)) {w3 with heap:=w3.heap.setIfInBounds wA.heap.size (.loop {EH with state:=.exhausted})}:=by
        rw[←d3]at s4 ⊢;exact s4
       have gh:=((sA.trans sB).trans s3).trans G1;have Ls:a8 W0 lB {w3 with heap:=w3.heap.setIfInBounds wA.heap.size (.loop {EH with state:=.exhausted})} (mk::a.defers) (w.heap.size::rs):=((hmarks.step sB).step s3).step G1;refine⟨p,{w3 with heap:=w3.heap.setIfInBounds wA.heap.size (.loop {EH with state:=.exhausted})},?_,?_⟩
       ·unfold Instr.endLoop;simp only[Sem.run_bind,run_getLoop (P:=P) d1,Result.andThen_ok];rw[if_neg (by rw[d2];intro hh;rw[bne_iff_ne]at bA;exact bA (eq_of_beq hh))];simp only[Sem.run_bind,bj (P:=P) d1 (fun _ _ _=>by simp),Result.andThen_ok,Sem.run_pure,d3]
       ·cases p with
        |none=>
         simp only[Option.some.injEq,Prod.mk.injEq]at hr;obtain⟨rfl,rfl,rfl⟩:=hr;exact hQ lB _ _ _ (hf.mono gh.le) Ls gh
        |some cj=>
         simp only at hr;exact hk cj f _ ex f' h' hr lB {a with defers:=mk::a.defers} _ W0 _ (hf.mono gh.le) G1.rel Ls (Nat.le_trans hW gh.grow.size) F n Q hF (.inl iI) fun SC a5 w5 SD p1 p2 s5=>hQ SC a5 w5 SD p1 p2 (gh.trans s5)
      ·cases hr
   ·cases hr
  |scope b=>simp only[aT]at hr;cases hr
  |label l=>simp only[aT]at hr;cases hr
  |goto l=>simp only[aT]at hr;cases hr
  |refuse s=>simp only[aT]at hr;cases hr
end
def ui (base:Nat) (μ:aS) (h:ab) (w:World) (b:Nat) (m:MT):Prop:=∃o o',h.get b=some o∧w.heap[m.r]? =some o'∧fR μ h base b m o o'
theorem ui.read {base:Nat} {μ:aS} {h:ab} {w:World} {b:Nat} {m:MT} (H:ui base μ h w b m) {cs:List Value} (hr:h.rd b=some cs):
 ∃c e fr,w.heap[m.r]? =some (.cells c e fr)∧c.size=m.n∧m.s+cs.length≤m.n∧(base≤b→mC fr m.n)∧∀(i:Nat) v,cs[i]? =some v→∃v',c[m.s+i]? =some v'∧ak μ v v':=by
 obtain⟨o,o',ho,Ep,px⟩:=H;obtain⟨r,h1,h2,h3⟩:=rd_some hr;obtain⟨f,cp,aE,hg⟩:=cY h3;rw[hg]at ho;cases ho;cases px with
 |cells hn hl hf hc=>exact⟨_,_,_,Ep,hn,hl,hf,hc (by simp[hr])⟩
theorem ui.ah {base:Nat} {μ:aS} {h:ab} {w:World} {b o n:Nat} {m:MT} (H:ui base μ h w b m) {l:List Value} (hr:ah h b o n=some l):
 l.length=n∧∀(i:Nat) v,l[i]? =some v→∃v',w.cell? ⟨m.r,m.s+o+i,none⟩=some v'∧ak μ v v':=by
 unfold M.ah at hr;simp only[Option.bind_eq_some_iff,aO]at hr;obtain⟨cs,h1,h2,rfl⟩:=hr;refine⟨by simp at h2 ⊢;omega,fun i v hv=>?_⟩;obtain⟨c,e,fr,hw,hn,hl,hf,hc⟩:=H.read h1;have hi:i<n:=by
  have:=(List.getElem?_eq_some_iff.1 hv).1;simp at this;omega
 rw[List.getElem?_take,if_pos hi,List.getElem?_drop]at hv;obtain⟨v',k1,k2⟩:=hc _ v hv;refine⟨v',?_,k2⟩;simp only[World.cell?,hw];simpa[Nat.add_assoc]using k1
section
variable {P:Program} {E:Env} {μ:aS} {f:AF} {a:Act} {base B:Nat} {h:ab} {w:World}
theorem ui.tY {b o n:Nat} {m:MT} (H:ui base μ h w b m) {l:List Value} (hr:M.ah h b o n=some l):
 ∃l',ao μ l l'∧∀(i:Nat) v,l'[i]? =some v→w.cell? ⟨m.r,m.s+o+i,none⟩=some v:=by
 obtain⟨h1,h2⟩:=H.ah hr;have key:∀(l:List Value) (k:Nat),(∀(i:Nat) v,l[i]? =some v→∃v',w.cell? ⟨m.r,m.s+o+k+i,none⟩=some v'∧ak μ v v')→∃l',ao μ l l'∧∀(i:Nat) v,l'[i]? =some v→w.cell? ⟨m.r,m.s+o+k+i,none⟩=some v:=by
  intro l
  induction l with
  |nil=>intro k _;exact⟨[],.nil,fun i v h=>by simp at h⟩
  |cons v l ih=>
   intro k hl;obtain⟨v',q1,q2⟩:=hl 0 v rfl;obtain⟨l',r1,r2⟩:=ih (k+1) fun i u hu=>by
    obtain⟨u',k1,k2⟩:=hl (i+1) u (by simpa using hu);exact⟨u',by rw[←k1];congr 2;omega,k2⟩
   refine⟨v'::l',.cons q2 r1,fun i u hu=>?_⟩;cases i with
   |zero=>simp at hu;subst hu;simpa using q1
   |succ i=>
    simp at hu;rw[←r2 i u hu];congr 2;omega
 obtain⟨l',r1,r2⟩:=key l 0 (by simpa using h2);exact⟨l',r1,by simpa using r2⟩
theorem EI (hE:aU P E) (hf:bw μ f a.tmps) (hg:eE E μ) {o:Oper} {q:RQ} {v:Value} (hq:ba E f o=some q) (Hq:∀m,μ q.cO=some m→∃h,q.run h=some v∧ui base μ h w q.cO m):
 ∃v',ak μ v v'∧(execOp a.eval o).run P w= .ok (.value v') w:=by
 obtain⟨dst,op,type,pos,after,guard⟩:=o;cases op
 case load t x=>
  simp only[ba,Option.bind_eq_some_iff,Option.some.injEq]at hq;obtain⟨u,h1,p,h2,⟨agg,n⟩,h3,rfl⟩:=hq;have e:=jB h2;subst e;obtain⟨m,hb,ex⟩:=(aL hg hf h1).jd;obtain⟨h,hv,H⟩:=Hq m hb;simp only[RQ.run,Option.bind_eq_some_iff]at hv;obtain⟨l,h4,h5⟩:=hv;obtain⟨l',r1,r2⟩:=H.tY h4;obtain⟨v',q1,q2⟩:=gZ h5 r1;refine⟨v',q2,?_⟩;have hl:l'.length=n:=by rw[←r1.length];exact(H.ah h4).1
  simp only[execOp,Instr.loadAt,Sem.run_bind,ex,Instr.sureAddr,Sem.run_pure,Result.andThen_ok];rw[mG hE h3 hl r2 q1];rfl
 case lookup t x ix ok=>
  simp only[ba,Option.bind_eq_some_iff]at hq;obtain⟨d,hd,mv,h1,k,h2,h3⟩:=hq;split at h3
  ·rename_i kt elem r;simp only[Option.bind_eq_some_iff,ae,Bool.and_eq_true,Option.some.injEq]at h3;obtain⟨kd,hH,z,hz,⟨⟨s1,s2⟩,s3⟩,rfl⟩:=h3;obtain⟨m,hb,ex⟩:=(aL hg hf h1).jZ;have ek:=(aL hg hf h2).an s2;obtain⟨h,hv,H⟩:=Hq m hb;simp only[RQ.run,Option.bind_eq_some_iff]at hv;obtain⟨⟨es,clock⟩,h4,h5⟩:=hv;obtain⟨o1,o2,k1,k2,k3⟩:=H;have hm:h.get r=some (.map es clock):=by
    unfold dB at h4;split at h4<;>simp at h4;obtain⟨rfl,rfl⟩:=h4;assumption
   simp only[RQ.cO]at k1 k3;rw[hm]at k1;cases k1;cases k3 with
   |map hs=>
    rename_i bC;have nB:=run_getObj_map (P:=P) k2 (fun _ _ _=>by simp);simp only[iK,Option.bind_eq_some_iff,Option.some.injEq]at h5;obtain⟨fr,h6,h7⟩:=h5;obtain⟨Gm,q1,q2,q3⟩:=iu hs h6;have oO:=ak.bJ μ s3;have Ey:(Instr.findKey kt k bC.toList).run P w= .ok Gm w:=by
     simp only[Instr.findKey,Sem.run_bind,aA hE hH w,Result.andThen_ok,q1,Sem.run_pure]
    have zE:=jC (P:=P) hE hH s1 bC.isEmpty 9999 k w;have fin:∀(u u':Value) (b:Bool),ak μ u u'→ak μ (bif ok then .tuple #[u,.bool b]else u) (if ok=true then .tuple #[u',.bool b]else u'):=by
     intro u u' b hu;cases ok with
     |true=>simp only[cond_true,if_true];exact .cq (by simpa using ao.cons hu (.cons (.bool μ b) .nil))
     |false=>simpa using hu
    cases fr with
    |none=>
     have e:=q2 rfl;subst e;simp only at h7;subst h7;refine⟨_,fin z z false oO,?_⟩;simp only[execOp,Instr.lookup,Sem.run_bind,aA hE hd w,Result.andThen_ok,ex,ek,nB,Sem.run_pure,zE,Ey,gM hE hz w]
    |some jv=>
     obtain⟨v',e,hr⟩:=q3 jv.1 jv.2 rfl;subst e;simp only at h7;subst h7;refine⟨_,fin jv.2 v' true hr,?_⟩;simp only[execOp,Instr.lookup,Sem.run_bind,aA hE hd w,Result.andThen_ok,ex,ek,nB,Sem.run_pure,zE,Ey]
  ·cases h3
 case call c=>
  simp only[ba]at hq;split at hq
  ·rename_i t ts yr Mq;simp only[Option.bind_eq_some_iff]at hq;obtain⟨d,hd,args,h1,h2⟩:=hq;split at h2
   ·rename_i kt et r rest;simp only[Option.some.injEq]at h2;subst h2;have hr:=jf hg hf h1;cases jA:c.args.toList.map a.eval with
    |nil=>rw[jA]at hr;cases hr
    |cons u us=>
     rw[jA]at hr;cases hr with
     |cons hx _=>
      obtain⟨m,hb,rfl⟩:=hx.jZ;obtain⟨h,hv,H⟩:=Hq m hb;simp only[RQ.run,Option.bind_eq_some_iff,Option.some.injEq]at hv;obtain⟨⟨es,clock⟩,h4,rfl⟩:=hv;obtain⟨o1,o2,k1,k2,k3⟩:=H;have hm:h.get r=some (.map es clock):=by
       unfold dB at h4;split at h4<;>simp at h4;obtain⟨rfl,rfl⟩:=h4;assumption
      simp only[RQ.cO]at k1 k3;rw[hm]at k1;cases k1;cases k3 with
      |map hs=>
       rename_i bC;have nB:=run_getObj_map (P:=P) k2 (fun _ _ _=>by simp);have e0:(c.args.map a.eval)[0]? =some (.map (some m.r)):=by
        have:(c.args.map a.eval).toList= .map (some m.r)::us:=by simpa using jA
        rw[←Array.getElem?_toList,this];rfl
       have e1:c.argTypes[0]? =some t:=by rw[←Array.getElem?_toList,Mq];rfl
       refine⟨goInt bC.size,?_,?_⟩
       ·have:=hs.length;simp only[Array.length_toList]at this;rw[this];exact .int μ _ _
       ·simp only[execOp,resolve,yr,Sem.run_bind,Sem.run_pure,Result.andThen_ok,invoke,builtin,Builtin.len_,e0,e1,aA hE hd w,nB]
   ·cases h2
  ·cases hq
 all_goals(simp only[ba]at hq;cases hq)
def uj (o:Oper) (f f':AF):Prop:=∀t,Operand.tmp t∈o.op.operands→f.get t=f'.get t
theorem bt {f f':AF} {x:Operand} (h:∀t,x= .tmp t→f.get t=f'.get t):ev E f x=ev E f' x:=by
 cases x<;>simp only[ev];rw[h _ rfl]
theorem kN {f f':AF}:∀{xs:List Operand},(∀t,Operand.tmp t∈xs→f.get t=f'.get t)→zR E f xs=zR E f' xs
 |[],_=>rfl
 |x::l,h=>by
  simp only[zR];rw[bt (fun t e=>h t (by rw[e];exact List.mem_cons_self)),kN fun t ht=>h t (List.mem_cons_of_mem _ ht)]
theorem lC {f f':AF}:∀{xs:List (Nat×Operand)},(∀t,Operand.tmp t∈xs.map (·.2)→f.get t=f'.get t)→fU E f xs=fU E f' xs
 |[],_=>rfl
 |(i,x)::l,h=>by
  simp only[fU];rw[bt (fun t e=>h t (by rw[e];exact List.mem_cons_self)),lC fun t ht=>h t (List.mem_cons_of_mem _ ht)]
theorem oR {f f':AF} {x:Option Operand} (h:∀t,x=some (.tmp t)→f.get t=f'.get t):mu E f x=mu E f' x:=by
 cases x<;>simp only[mu];rw[bt fun t e=>h t (by rw[e])]
theorem uk {f f':AF} {o:Oper} (h:uj o f f'):aB E f o=aB E f' o:=by
 obtain⟨dst,op,type,pos,after,guard⟩:=o;unfold uj at h;cases op<;>simp only[Op.operands]at h<;>simp only[aB]
 case call c=>
  have h2:∀t,Operand.tmp t∈c.args.toList→f.get t=f'.get t:=fun t ht=>h t (by simp[Call.operands]at ht ⊢;exact .inr ht);rw[kN h2]
 case makeFunc fn first captured=>
  rw[kN (xs:=first.toList) fun t ht=>h t (by simp at ht ⊢;exact .inl ht),kN (xs:=captured.toList) fun t ht=>h t (by simp at ht ⊢;exact .inr ht)]
 case build t ps=>rw[lC fun t ht=>h t (by simpa using ht)]
 case slice t x lo hi mx=>
  rw[bt fun t e=>h t (by simp[e]),oR (x:=lo) fun t e=>h t (by simp[e]),oR (x:=hi) fun t e=>h t (by simp[e]),oR (x:=mx) fun t e=>h t (by simp[e])]
 case pick c x y=>rw[bt (x:=c) fun t e=>h t (by simp[e]),bt (x:=x) fun t e=>h t (by simp[e]),bt (x:=y) fun t e=>h t (by simp[e])]
 case binOp op t x y z=>rw[bt (x:=x) fun t e=>h t (by simp[e]),bt (x:=y) fun t e=>h t (by simp[e])]
 case indexAddr t x y=>rw[bt (x:=x) fun t e=>h t (by simp[e]),bt (x:=y) fun t e=>h t (by simp[e])]
 case index t x y=>rw[bt (x:=x) fun t e=>h t (by simp[e]),bt (x:=y) fun t e=>h t (by simp[e])]
 case lookup t x y k=>rw[bt (x:=x) fun t e=>h t (by simp[e]),bt (x:=y) fun t e=>h t (by simp[e])]
 all_goals first|rfl |(rw[bt fun t e=>h t (by simp[e])])
theorem um {f f':AF} {o:Oper} (h:uj o f f'):ba E f o=ba E f' o:=by
 obtain⟨dst,op,type,pos,after,guard⟩:=o;unfold uj at h;cases op<;>simp only[Op.operands]at h<;>simp only[ba]
 case call c=>
  have h2:∀t,Operand.tmp t∈c.args.toList→f.get t=f'.get t:=fun t ht=>h t (by simp[Call.operands]at ht ⊢;exact .inr ht);rw[kN h2]
 case lookup t x y k=>rw[bt (x:=x) fun t e=>h t (by simp[e]),bt (x:=y) fun t e=>h t (by simp[e])]
 all_goals first|rfl |(rw[bt fun t e=>h t (by simp[e])])
theorem r9 {f f':AF} {o:Oper} (h:uj o f f'):aP E f o=aP E f' o:=by
 obtain⟨dst,op,type,pos,after,guard⟩:=o;unfold uj at h;cases op<;>simp only[Op.operands]at h<;>simp only[aP]
 case buildSlice t n ps=>rw[lC fun t ht=>h t (by simpa using ht)]
 case makeMap t r=>cases r<;>rfl
 case makeSlice t x y=>rw[bt (x:=x) fun t e=>h t (by simp[e]),bt (x:=y) fun t e=>h t (by simp[e])]
 all_goals first|rfl |(rw[bt fun t e=>h t (by simp[e])])
theorem wZ {f f':AF} {o:Oper} (h:uj o f f') (k:ab):bT E base f o k=bT E base f' o k:=by
 obtain⟨dst,op,type,pos,after,guard⟩:=o;unfold uj at h;cases op<;>simp only[Op.operands]at h<;>simp only[bT]
 case call c=>
  have h2:∀t,Operand.tmp t∈c.args.toList→f.get t=f'.get t:=fun t ht=>h t (by simp[Call.operands]at ht ⊢;exact .inr ht);rw[kN h2];cases hc:c.callee with
  |value g=>
   have h3:∀t,g= .tmp t→f.get t=f'.get t:=fun t ht=>h t (by simp[Call.operands,hc,ht]);simp only
   rw[bt h3]
  |builtin b=>rfl
  |invoke r m=>rfl
 case store t x y=>rw[bt (x:=x) fun t e=>h t (by simp[e]),bt (x:=y) fun t e=>h t (by simp[e])]
 case mapUpdate t x y z|insert t x y z=>rw[bt (x:=x) fun t e=>h t (by simp[e]),bt (x:=y) fun t e=>h t (by simp[e]),bt (x:=z) fun t e=>h t (by simp[e])]
 all_goals first|rfl |(rw[bt fun t e=>h t (by simp[e])])
theorem Cj {f f':AF} {o:Oper} (h:uj o f f') (k:ab) (cf:dn) (rf:cP):cV E base cf rf o f k=cV E base cf rf o f' k:=by
 unfold cV;rw[uk h,um h,r9 h,wZ h]
def AF.only (f:AF) (l:List Nat):AF:=⟨l.foldl (fun tr t=>tr.set t (f.get t)) .nil,f.n⟩
theorem AF.uo (f:AF) (l:List Nat) (t:Nat):(f.only l).get t=if t∈l then f.get t else undef:=by
 have key:∀(l:List Nat) (tr:Tr Value),(∀t,tr.get t=none∨tr.get t=some (f.get t))→∀t,(l.foldl (fun tr t=>tr.set t (f.get t)) tr).get t=if t∈l then some (f.get t)else tr.get t:=by
  intro l
  induction l with
  |nil=>intro tr _ t;simp
  |cons x l ih=>
   intro tr VU t;simp only[List.foldl_cons];have h0:∀t,(tr.set x (f.get x)).get t=none∨(tr.set x (f.get x)).get t=some (f.get t):=fun t=>by
    rw[Tr.fx];by_cases e:t=x
    ·subst e;rw[if_pos rfl];exact .inr rfl
    ·rw[if_neg e];exact VU t
   rw[ih _ h0 t,Tr.fx];by_cases h1:t∈l
   ·simp[h1]
   ·by_cases h2:t=x
    ·subst h2;simp
    ·simp[h1,h2]
 have e:(f.only l).get t=(match(l.foldl (fun(tr:Tr Value) t=>tr.set t (f.get t)) Tr.nil).get t with|some v=>v|none=>undef):=rfl;rw[e,key l .nil (fun _=>.inl rfl) t,Tr.get_nil];by_cases ht:t∈l
 ·rw[if_pos ht,if_pos ht]
 ·rw[if_neg ht,if_neg ht]
def kO (tmps:Array Value) (l:List Nat):Array Value:=(Array.range tmps.size).map fun t=>if t∈l then tmps.getD t undef else undef
theorem uq (tmps:Array Value) (l:List Nat):(kO tmps l).size=tmps.size:=by simp[kO]
theorem w6 (tmps:Array Value) (l:List Nat) (t:Nat):(kO tmps l).getD t undef=if t∈l then tmps.getD t undef else undef:=by
 by_cases ht:t<tmps.size
 ·simp[kO,ht]
 ·simp[kO,ht]
def sa (a:Act) (l:List Nat):Act:={a with tmps:=kO a.tmps l}
theorem ur {f:AF} {a:Act} {l:List Nat} (hn:a.tmps.size=f.n) (h:∀t∈l,ak μ (f.get t) (a.tmps.getD t undef)):bw μ (f.only l) (sa a l).tmps:=by
 refine⟨?_,fun t=>?_⟩
 ·show f.n=(kO a.tmps l).size;rw[uq];exact hn.symm
 ·show ak μ _ ((kO a.tmps l).getD t undef);rw[AF.uo,w6];split
  ·exact h t ‹_›
  ·exact .undef μ
theorem oq {ops:List Oper} {o:Oper} {t:Nat} (h:Operand.tmp t∈o.op.operands):t∈looks ops o:=by
 unfold looks;exact List.mem_append_left _ (List.mem_filterMap.2 ⟨.tmp t,by simpa using h,rfl⟩)
theorem l7 {ops:List Oper} {o:Oper} {g:Nat} {want:Bool} {t:Nat} (h:o.guard=some (g,want)) (h2:(ops[g]?).bind (·.dst)=some t):t∈looks ops o:=by
 unfold looks;rw[h];simp[h2]
theorem w7 (ops:List Oper) (o:Oper) (f:AF):uj o (f.only (looks ops o)) f:=fun t ht=>by
 rw[AF.uo,if_pos (oq ht)]
theorem mK (ops:List Oper) (o:Oper) (f:AF):wanted ops o (f.only (looks ops o))=wanted ops o f:=by
 unfold wanted;cases hg:o.guard with
 |none=>rfl
 |some gw=>
  obtain⟨g,want⟩:=gw;simp only
  cases hd:(ops[g]?).bind (·.dst)with
  |none=>rfl
  |some t=>
   simp only
   rw[AF.uo,if_pos (l7 hg hd)]
theorem EJ {ops:List Oper} {o:Oper} {a:Act} {x:Operand} (h:x∈o.op.operands):a.eval x=(sa a (looks ops o)).eval x:=by
 cases x with
 |tmp t=>
  have:=w6 a.tmps (looks ops o) t;rw[if_pos (oq h)]at this;show a.tmps.getD t undef=(kO a.tmps (looks ops o)).getD t undef;exact this.symm
 |_=>rfl
theorem w8 {ops:List Oper} {o:Oper} {a:Act} (hs:∀cs b,o.op≠ .select cs b):execOp a.eval o=execOp (sa a (looks ops o)).eval o:=
 execOp_congr o hs fun _ hx=>EJ hx
theorem lD {ops:Array Oper} {o:Oper} {a:Act}:Region.wanted o (yielded ops (sa a (looks ops.toList o)).tmps)=Region.wanted o (yielded ops a.tmps):=by
 unfold Region.wanted;cases hg:o.guard with
 |none=>rfl
 |some gw=>
  obtain⟨g,want⟩:=gw;simp only
  congr 1
  unfold yielded;cases hd:(ops[g]?).bind (·.dst)with
  |none=>simp
  |some t=>
   simp only[Option.bind_some];have hm:t∈looks ops.toList o:=l7 hg (by simpa using hd);show(match(kO a.tmps (looks ops.toList o))[t]? with|some (.bool b)=>some b|_=>none)=_;by_cases ht:t<a.tmps.size
   ·have h1:(kO a.tmps (looks ops.toList o))[t]? =a.tmps[t]? :=by
     simp[kO,ht,hm]
    rw[h1];rfl
   ·have e1:a.tmps[t]? =none:=Array.getElem?_eq_none (Nat.le_of_not_lt ht);have e2:(kO a.tmps (looks ops.toList o))[t]? =none:=Array.getElem?_eq_none (by rw[uq];exact Nat.le_of_not_lt ht);rw[e1,e2]
theorem noSelect {cf:dn} {rf:cP} {o:Oper} {r:GB} {k:ab} (h:cV E base cf rf o f k=some r):∀cs b,o.op≠ .select cs b:=by
 intro cs b hc;unfold cV at h;simp only[aB,ba,aP,bT,hc]at h;cases h
end
section
variable {E:Env} {base:Nat} {cf:dn} {rf:cP}
theorem mL {o:Oper} {f:AF} {h:ab} {r:GB} (hr:cV E base cf rf o f h=some r):
 (aB E f o=some r.v∧r.h=h∧r.log= .pure)∨
 (∃q,ba E f o=some q∧q.run h=some r.v∧r.h=h∧r.log= .rd q h)∨
 (∃md hd,aP E f o=some (md,hd)∧r.v=hd.val h.size∧r.h=h.push (md.obj h.size)∧r.log= .alloc h r.h)∨
 r.log= .ck h r.h:=by
 unfold cV at hr;split at hr
 ·simp only[Option.some.injEq]at hr;subst hr;exact .inl ⟨by assumption,rfl,rfl⟩
 ·split at hr
  ·simp only[Option.bind_eq_some_iff,Option.some.injEq]at hr;obtain⟨v,hv,rfl⟩:=hr;exact .inr (.inl ⟨_,by assumption,hv,rfl,rfl⟩)
  ·split at hr
   ·simp only[Option.some.injEq]at hr;subst hr;exact .inr (.inr (.inl ⟨_,_,by assumption,rfl,rfl,rfl⟩))
   ·split at hr
    ·simp only[Option.some.injEq]at hr;subst hr;rename_i he;refine .inr (.inr (.inr rfl))
    ·simp only[Option.bind_eq_some_iff,Option.some.injEq]at hr;obtain⟨x,_,rfl⟩:=hr;exact .inr (.inr (.inr rfl))
    ·simp only[Option.bind_eq_some_iff,Option.some.injEq]at hr;obtain⟨x,_,rfl⟩:=hr;exact .inr (.inr (.inr rfl))
    ·cases hr
structure Trace (E:Env) (base:Nat) (cf:dn) (rf:cP) (all ops:List Oper) (fs:Nat→AF) (hs:Nat→ab) (vs:Nat→Value) (lg:Nat→cg):Prop where
 put:∀j o,ops[j]? =some o→fs (j+1)=(fs j).put o.dst (vs j)
 run:∀j o,ops[j]? =some o→(wanted all o (fs j)=true∧cV E base cf rf o (fs j) (hs j)=some ⟨vs j,hs (j+1),lg j⟩)∨(wanted all o (fs j)=false∧vs j=undef∧hs (j+1)=hs j∧lg j= .pure)
theorem pL {all:List Oper}:∀{ops:List Oper} {f:AF} {h:ab} {f':AF} {h':ab} {fD:List cg},fY E base cf rf all ops f h=some (f',h',fD)→
 ∃fs hs vs lg,Trace E base cf rf all ops fs hs vs lg∧fs 0=f∧hs 0=h∧fs ops.length=f'∧hs ops.length=h'∧∀j,j<ops.length→fD[j]? =some (lg j)
 |[],f,h,f',h',fD,hr=>by
  simp only[fY,Option.some.injEq,Prod.mk.injEq]at hr;obtain⟨rfl,rfl,rfl⟩:=hr;exact⟨fun _=>f,fun _=>h,fun _=>undef,fun _=>.pure,⟨fun j o ho=>by simp at ho,fun j o ho=>by simp at ho⟩,rfl,rfl,rfl,rfl,fun j hj=>by simp at hj⟩
 |o::ops,f,h,f',h',fD,hr=>by
  simp only[fY]at hr
  have fin:∀(v:Value) (h1:ab) (l1:cg) (f1:AF) (h2:ab) (l2:List cg),fY E base cf rf all ops (f.put o.dst v) h1=some (f1,h2,l2)→
   ((wanted all o f=true∧cV E base cf rf o f h=some ⟨v,h1,l1⟩)∨(wanted all o f=false∧v=undef∧h1=h∧l1= .pure))→
   ∃fs hs vs lg,Trace E base cf rf all (o::ops) fs hs vs lg∧fs 0=f∧hs 0=h∧fs (o::ops).length=f1∧hs (o::ops).length=h2∧∀j,j<(o::ops).length→(l1::l2)[j]? =some (lg j):=by
   intro v h1 l1 f1 h2 l2 bH hk;obtain⟨fs,hs,vs,lg,T,e1,e2,e3,e4,e5⟩:=pL bH;refine⟨fun |0=>f|j+1=>fs j,fun |0=>h|j+1=>hs j,fun |0=>v|j+1=>vs j,fun |0=>l1|j+1=>lg j,⟨?_,?_⟩,rfl,rfl,e3,e4,?_⟩
   ·intro j p hp;cases j with
    |zero=>simp at hp;subst hp;exact e1
    |succ j=>exact T.put j p (by simpa using hp)
   ·intro j p hp;cases j with
    |zero=>simp at hp;subst hp;simpa[e2]using hk
    |succ j=>exact T.run j p (by simpa using hp)
   ·intro j hj;cases j with
    |zero=>rfl
    |succ j=>simpa using e5 j (by simpa using hj)
  split at hr
  ·rename_i hw;simp only[Option.bind_eq_some_iff,Option.some.injEq,Prod.mk.injEq]at hr;obtain⟨r,gG,⟨f1,h2,l2⟩,qC,rfl,rfl,rfl⟩:=hr;exact fin _ _ _ _ _ _ qC (.inl ⟨hw,by rw[gG]⟩)
  ·rename_i hw;simp only[Option.bind_eq_some_iff,Option.some.injEq,Prod.mk.injEq]at hr;obtain⟨⟨f1,h2,l2⟩,qC,rfl,rfl,rfl⟩:=hr;exact fin _ _ _ _ _ _ qC (.inr ⟨hw,rfl,rfl,rfl⟩)
def Cl (acc:List Nat) (s:Nat) (e:Edge):Nat:=match Region.binds .any e with|true=>s|||2 ^ e.on|||acc.getD e.on 0|false=>s
theorem yD (p:Oper) (l:List Oper) (acc:List Nat):a6 (p::l) acc=a6 l (acc++[p.after.toList.foldl (Cl acc) 0]):=rfl
theorem uu (acc:List Nat) (b:Nat):∀(es:List Edge) (s:Nat),(es.foldl (Cl acc) s).testBit b=true→
 s.testBit b=true∨∃e∈es,Region.binds .any e=true∧(b=e.on∨(acc.getD e.on 0).testBit b=true)
 |[],s,h=>.inl h
 |e::es,s,h=>by
  simp only[List.foldl_cons]at h;rcases uu acc b es _ h with h1|⟨e',h1,h2⟩
  ·unfold Cl at h1;cases hb:Region.binds .any e with
   |false=>rw[hb]at h1;exact .inl h1
   |true=>
    rw[hb]at h1;simp only[Nat.testBit_or,Bool.or_eq_true,Nat.testBit_two_pow,decide_eq_true_eq]at h1;rcases h1 with (h1|h1)|h1
    ·exact .inl h1
    ·exact .inr ⟨e,List.mem_cons_self,hb,.inl h1.symm⟩
    ·exact .inr ⟨e,List.mem_cons_self,hb,.inr h1⟩
  ·exact .inr ⟨e',List.mem_cons_of_mem _ h1,h2⟩
theorem pM:∀(l:List Oper) (acc:List Nat),∃ys,a6 l acc=acc++ys∧∀i o,l[i]? =some o→∀b,((acc++ys).getD (acc.length+i) 0).testBit b=true→
 ∃e∈o.after.toList,Region.binds .any e=true∧(b=e.on∨(e.on<acc.length+i∧((acc++ys).getD e.on 0).testBit b=true))
 |[],acc=>⟨[],by simp[a6],fun i o h=>by simp at h⟩
 |p::l,acc=>by
  obtain⟨ys,h1,h2⟩:=pM l (acc++[p.after.toList.foldl (Cl acc) 0]);refine⟨(p.after.toList.foldl (Cl acc) 0)::ys,by rw[yD,h1];simp,fun i o ho b hb=>?_⟩;cases i with
  |zero=>
   simp at ho;subst ho;have e0:(acc++(p.after.toList.foldl (Cl acc) 0)::ys).getD (acc.length+0) 0=(p.after.toList.foldl (Cl acc) 0):=by
    simp[List.getD]
   rw[e0]at hb;rcases uu _ _ _ _ hb with hz|⟨e,k1,k2,k3⟩
   ·simp at hz
   ·refine⟨e,k1,k2,?_⟩;rcases k3 with k3|k3
    ·exact .inl k3
    ·by_cases bO:e.on<acc.length
     ·refine .inr ⟨om,?_⟩;rw[←k3];simp[List.getD,List.getElem?_append_left bO]
     ·simp[List.getD,List.getElem?_eq_none (Nat.le_of_not_lt bO)]at k3
  |succ i=>
   have:=h2 i o (by simpa using ho) b (by simpa[Nat.add_assoc,Nat.add_comm 1 i]using hb);simpa[Nat.add_assoc,Nat.add_comm 1 i]using this
theorem mM {ops:List Oper} {i:Nat} {o:Oper} (ho:ops[i]? =some o) {b:Nat} (hb:((a6 ops []).getD i 0).testBit b=true):
 ∃e∈o.after.toList,Region.binds .any e=true∧(b=e.on∨(e.on<i∧((a6 ops []).getD e.on 0).testBit b=true)):=by
 obtain⟨ys,h1,h2⟩:=pM ops [];simp only[List.nil_append,List.length_nil,Nat.zero_add]at h1 h2;rw[h1]at hb ⊢;exact h2 i o ho b hb
theorem pN {ops:List Oper} {bs:List Nat} {i:Nat} {o:Oper}:∀{l:List Oper} {j0:Nat},mA ops bs i o j0 l=true→∀k p,l[k]? =some p→i≠j0+k→∀d,p.dst=some d→o.dst≠some d∧(d∈looks ops o→ordered bs i (j0+k)=true)
 |[],j0,_,k,p,hp,_,d,_=>by simp at hp
 |q::l,j0,h,k,p,hp,aX,d,hd=>by
  simp only[mA,Bool.and_eq_true,Bool.or_eq_true,beq_iff]at h;obtain⟨h1,h2⟩:=h;cases k with
  |zero=>
   simp at hp;subst hp;rcases h1 with h1|h1
   ·exact absurd h1 aX
   ·rw[hd]at h1;simp only[Bool.and_eq_true,bne_iff_ne,Bool.or_eq_true,Bool.not_eq_true']at h1;refine⟨h1.1,fun hm=>?_⟩;rcases h1.2 with h3|h3
    ·have:(looks ops o).contains d=true:=by simpa using hm
     rw[this]at h3;cases h3
    ·exact h3
  |succ k=>
   have:=pN h2 k p (by simpa using hp) om d hd;rw[show j0+(k+1)=j0+1+k by omega];exact this
theorem sb {ops:List Oper} {bs:List Nat}:∀{l:List Oper} {i0:Nat},tc ops bs i0 l=true→∀k o,l[k]? =some o→mA ops bs (i0+k) o 0 ops=true∧∀e∈o.after.toList,Region.binds .any e=true→e.on<i0+k
 |[],i0,_,k,o,ho=>by simp at ho
 |q::l,i0,h,k,o,ho=>by
  simp only[tc,Bool.and_eq_true,List.all_eq_true,Bool.or_eq_true,Bool.not_eq_true',aF]at h;obtain⟨⟨h1,h2⟩,h3⟩:=h;cases k with
  |zero=>
   simp at ho;subst ho;refine⟨h1,fun e he hb=>?_⟩;rcases h2 e he with h4|h4
   ·rw[hb]at h4;cases h4
   ·exact h4
  |succ k=>
   have:=sb h3 k o (by simpa using ho);rw[show i0+(k+1)=i0+1+k by omega];exact this
structure gP (ops:List Oper):Prop where
 Px:∀(i:Nat) (o:Oper),ops[i]? =some o→∀e∈o.after.toList,Region.binds .any e=true→e.on<i
 one:∀(i j:Nat) (o p:Oper) (d:Tmp),ops[i]? =some o→ops[j]? =some p→i≠j→p.dst=some d→o.dst≠some d
 look:∀(i j:Nat) (o p:Oper) (d:Tmp),ops[i]? =some o→ops[j]? =some p→i≠j→p.dst=some d→d∈looks ops o→ordered (a6 ops []) i j=true
theorem uv {ops:List Oper} (h:dY ops=true):gP ops:=by
 have key:=fun i o ho=>sb (l:=ops) (i0:=0) h i o ho;simp only[Nat.zero_add]at key;have k2:=fun i o ho j p (hp:ops[j]? =some p)=>pN (l:=ops) (j0:=0) (key i o ho).1 j p hp;simp only[Nat.zero_add]at k2;exact⟨fun i o ho=>(key i o ho).2,fun i j o p d ho hp aX hd=>(k2 i o ho j p hp aX d hd).1,fun i j o p d ho hp aX hd hm=>(k2 i o ho j p hp aX d hd).2 hm⟩
theorem Cm {ops:List Oper} (T:gP ops):∀(j:Nat) (o:Oper),ops[j]? =some o→∀b,((a6 ops []).getD j 0).testBit b=true→b<j:=by
 intro j
 induction j using Nat.strongRecOn with
 |ind j ih=>
  intro o ho b hb;obtain⟨e,h1,h2,h3⟩:=mM ho hb;have bO:=T.Px j o ho e h1 h2;rcases h3 with rfl |⟨h3,h4⟩
  ·exact bO
  ·have hlen:j<ops.length:=(List.getElem?_eq_some_iff.1 ho).1;have:=ih e.on h3 _ (List.getElem?_eq_getElem om) b h4;omega
def pO (_:List Oper) (L:Nat→Bool) (o:Oper):Prop:=∀e∈o.after.toList,Region.binds .any e=true→L e.on=true
def lE (ops:List Oper) (L:Nat→Bool):Prop:=∀j o,ops[j]? =some o→L j=true→pO ops L o
theorem Co {ops:List Oper} {L:Nat→Bool} (C:lE ops L):∀(j:Nat) (o:Oper),ops[j]? =some o→pO ops L o→∀b,((a6 ops []).getD j 0).testBit b=true→L b=true:=by
 intro j
 induction j using Nat.strongRecOn with
 |ind j ih=>
  intro o ho hr b hb;obtain⟨e,h1,h2,h3⟩:=mM ho hb;have hl:=hr e h1 h2;rcases h3 with rfl |⟨h3,h4⟩
  ·exact hl
  ·have hlen:j<ops.length:=(List.getElem?_eq_some_iff.1 ho).1;have h5:=List.getElem?_eq_getElem (l:=ops) (i:=e.on) om;exact ih e.on h3 _ h5 (C _ _ h5 hl) b h4
theorem dD {ops:List Oper} (T:gP ops) {L:Nat→Bool} (C:lE ops L) {i j:Nat} (EK:i<j) {o:Oper} (ho:ops[j]? =some o) (hr:pO ops L o) (h:ordered (a6 ops []) i j=true∨ordered (a6 ops []) j i=true):L i=true:=by
 have hlen:j<ops.length:=(List.getElem?_eq_some_iff.1 ho).1;have h5:=List.getElem?_eq_getElem (l:=ops) (i:=i) om;have:((a6 ops []).getD j 0).testBit i=true:=by
  unfold ordered at h;simp only[Bool.or_eq_true]at h;rcases h with (h|h)|(h|h)
  ·exact h
  ·have:=Cm T i _ h5 j h;omega
  ·have:=Cm T i _ h5 j h;omega
  ·exact h
 exact Co C j o ho hr i this
theorem pP {bs:List Nat} {i:Nat} {x:cg}:∀{l:List cg} {j0:Nat},bQ bs i x j0 l=true→∀k y,l[k]? =some y→aN bs i x (j0+k) y=true
 |[],_,_,k,y,h=>by simp at h
 |z::l,j0,h,k,y,hy=>by
  simp only[bQ,Bool.and_eq_true]at h;cases k with
  |zero=>simp at hy;subst hy;exact h.1
  |succ k=>
   have:=pP h.2 k y (by simpa using hy);rw[show j0+(k+1)=j0+1+k by omega];exact this
theorem sc {bs:List Nat}:∀{l:List cg} {i0:Nat},fv bs i0 l=true→(∀(i:Nat) (x:cg),l[i]? =some x→ko x=true)∧∀(i j:Nat) (x y:cg),i<j→l[i]? =some x→l[j]? =some y→aN bs (i0+i) x (i0+j) y=true
 |[],_,_=>⟨fun i x h=>by simp at h,fun i j x y _ h=>by simp at h⟩
 |z::l,i0,h=>by
  simp only[fv,Bool.and_eq_true]at h;obtain⟨⟨h1,h2⟩,h3⟩:=h;obtain⟨k1,k2⟩:=sc h3;refine⟨fun i x hx=>?_,fun i j x y EK hx hy=>?_⟩
  ·cases i with
   |zero=>simp at hx;subst hx;exact h1
   |succ i=>exact k1 i x (by simpa using hx)
  ·cases j with
   |zero=>omega
   |succ j=>
    cases i with
    |zero=>
     simp at hx;subst hx;have:=pP h2 j y (by simpa using hy);rw[show i0+(j+1)=i0+1+j by omega];exact this
    |succ i=>
     have:=k2 i j x y om (by simpa using hx) (by simpa using hy);rw[show i0+(i+1)=i0+1+i by omega,show i0+(j+1)=i0+1+j by omega];exact this
variable {all ops:List Oper} {fs:Nat→AF} {hs:Nat→ab} {vs:Nat→Value} {lg:Nat→cg}
theorem Trace.EL (T:Trace E base cf rf all ops fs hs vs lg):∀k,k≤ops.length→(fs k).n=(fs 0).n:=by
 intro k
 induction k with
 |zero=>intro _;rfl
 |succ k ih=>
  intro hk;rw[T.put k _ (List.getElem?_eq_getElem om),AF.Lf,ih om]
theorem AF.br (f:AF) (d:Option Tmp) (v:Value) (t:Nat):(f.put d v).get t=if d=some t∧t<f.n then v else f.get t:=by
 cases d with
 |none=>simp[AF.put]
 |some d=>
  simp only[AF.put,AF.fx,Option.some.injEq];by_cases e:t=d
  ·subst e;simp
  ·have:d≠t:=fun h=>e h.symm;simp[e,this]
theorem Trace.Cp (T:Trace E base cf rf all ops fs hs vs lg) (t:Nat):∀k,k≤ops.length→(∀j o,j<k→ops[j]? =some o→o.dst≠some t)→(fs k).get t=(fs 0).get t:=by
 intro k
 induction k with
 |zero=>intro _ _;rfl
 |succ k ih=>
  intro hk zH;rw[T.put k _ (List.getElem?_eq_getElem om),AF.br,if_neg (fun h=>zH k _ om (List.getElem?_eq_getElem om) h.1),ih om fun j o hj ho=>zH j o om ho]
theorem Trace.Cq (T:Trace E base cf rf all ops fs hs vs lg) (X:gP ops) {t:Nat} (ht:t<(fs 0).n) {j:Nat} {o:Oper} (ho:ops[j]? =some o) (hd:o.dst=some t):∀k,k≤ops.length→j<k→(fs k).get t=vs j:=by
 intro k
 induction k with
 |zero=>intro _ h;omega
 |succ k ih=>
  intro hk Py;have EM:=List.getElem?_eq_getElem (l:=ops) (i:=k) om;rw[T.put k _ EM,AF.br];by_cases e:j=k
  ·subst e;rw[EM]at ho;cases ho;rw[if_pos ⟨hd,by rw[T.EL j om];exact ht⟩]
  ·rw[if_neg (fun h=>X.one k j _ o t EM ho (fun h=>e h.symm) hd h.1),ih om om]
end
section
variable {P:Program} {E:Env} {μ:aS} {f:AF} {a:Act} {base B:Nat} {h:ab} {w:World} {cf:dn} {rf:cP}
theorem J3 (hE:aU P E) (sR:iR P E base B cf) (uf:hZ P E base B rf) (j6:ia E cf) (j7:fm rf) {F:Fence} (hF:c4 F) {n:Nat} (hf:bw μ f a.tmps) (H:aM E base B μ h w) {o:Oper} {r:GB} (hr:cV E base cf rf o f h=some r) {a1:Act} (hex:execOp a1.eval o=execOp a.eval o)
 {next:Act→World→Prop} {Q:Exit→Act→World→Prop} (hn:∀az v' w',ak az r.v v'→Step E base B μ h w az r.h w'→next (a1.put o.dst v') w'):o.wpIn F n P a1 w next Q:=by
 have hg:eE E μ:=H.cd;refine⟨fun _ _=>hF.fn _,?_⟩;rw[Oper.semAt_eq _ _ _ (yw hr),hex];unfold cV at hr;split at hr
 ·rename_i v hp;simp only[Option.some.injEq]at hr;subst hr;obtain⟨v',q1,q2⟩:=nA hE hg hf hp;rw[q2 w];exact hn μ v' w q1 (.refl H)
 ·split at hr
  ·rename_i q hq;simp only[Option.bind_eq_some_iff,Option.some.injEq]at hr;obtain⟨v,hv,rfl⟩:=hr;obtain⟨v',q1,q2⟩:=qM hE hf H hq hv;rw[q2];exact hn μ v' w q1 (.refl H)
  ·split at hr
   ·rename_i md hd dx;simp only[Option.some.injEq]at hr;subst hr;obtain⟨o',k,hv,S⟩:=lr hE hg hf dx;rw[S.run w];have st:=Step.alloc (o:=md.obj h.size) H (yi.mk' w o') k (fun cs f cp aE hh=>by cases md<;>simp[Made.obj]at hh;exact⟨hh.2.1.symm,hh.2.2.1.symm⟩) (S.obj _ _ _ _ _ (dO H.fresh));exact hn _ _ _ (S.val _ _ _ (bc _ _ _)) st
   ·split at hr
    ·rename_i v h' he;simp only[Option.some.injEq]at hr;subst hr;obtain⟨az,nx,v',w',q1,q2,q3,q4⟩:=ue hE hf H he;rw[q1];rcases q2 with rfl |⟨rfl,rfl⟩
     ·exact hn az v' w' q3 q4
     ·exact hn az undef w' q3 q4
    ·rename_i g args h' he;simp only[Option.bind_eq_some_iff,Option.some.injEq]at hr;obtain⟨⟨v,h2⟩,hc,rfl⟩:=hr;have oP:=j6 _ _ _ _ hc;obtain⟨args',e,q1,q2⟩:=ly hE hf H he oP;subst e;rw[q2];refine⟨hF.ok n,(sR μ h' w g args args' v h2 hc q1 H F (n - 1) hF).mono ?_⟩;rintro e w' ⟨v',az,rfl,k1,k2⟩;exact hn az v' w' k1 k2
    ·rename_i l args h' he;simp only[Option.bind_eq_some_iff,Option.some.injEq]at hr;obtain⟨⟨v,h2⟩,hc,rfl⟩:=hr;obtain⟨st,p,f0,ps,c7,body,hl,hlen⟩:=j7 _ _ _ _ hc;have hh:h'=h:=by
      obtain⟨dst,op,type,pos,after,guard⟩:=o;cases op<;>simp only[bT]at he<;>first|cases he|skip
      all_goals simp only[Option.bind_eq_some_iff,Option.some.injEq,Prod.mk.injEq,ae,reduceCtorEq,false_and,and_false,exists_false]at he
      ·obtain⟨_,_,_,_,he⟩:=he;split at he
       ·split at he<;>simp at he
       ·cases he
      ·obtain⟨_,_,he⟩:=he;split at he
       ·first|(simp at he;done)|(obtain⟨_,_,he⟩:=he;simp at he;done)|(simp only[Option.bind_eq_some_iff]at he;obtain⟨_,_,he⟩:=he;cases he)
       ·try simp only[Option.bind_eq_some_iff]at he
        obtain⟨_,_,he⟩:=he;split at he
        ·simp at he
        ·simp only[Option.some.injEq,Prod.mk.injEq]at he;exact he.2.symm
        ·cases he
       ·cases he
     subst hh;obtain⟨m,args',lo,_,hb,hw,q1,q2,q3⟩:=lz (P:=P) hf H he hl hlen;rw[q2];refine⟨hF.ok n,(uf μ h' w l args v h2 m f0 ps c7 body st p lo.fn _ hc hl hb H (jF q3 q1) F (n - 1) hF).mono ?_⟩;rintro e w' ⟨v',az,rfl,k1,k2⟩;exact hn az v' w' k1 k2
    ·cases hr
def cut (μ:aS) (s:Nat):aS:=fun b=>if b<s then μ b else none
theorem bI {μ:aS} {s b:Nat} {m:MT}:cut μ s b=some m↔b<s∧μ b=some m:=by
 unfold cut;split<;>simp[*]
theorem eP {μ az:aS} (h:μ.le az) {s t:Nat} (hs:s≤t):(cut μ s).le (cut az t):=fun b m hb=>by
 have:=bI.1 hb;exact bI.2 ⟨om,h _ _ this.2⟩
theorem yE {eo μ:aS} (h:eo.le μ) {s:Nat} (hd:∀b m,eo b=some m→b<s):eo.le (cut μ s):=fun b m hb=>bI.2 ⟨hd b m hb,h b m hb⟩
theorem aM.DA (H:aM E base B μ h w) {o:dV} (jz:∀cs f cp aE,o= .cells cs f cp aE→f=h.size):aM E base B μ (h.push o) w:=by
 refine⟨fun b m hb=>?_,fun c hc=>?_,fun c m hc=>?_,H.own,fun b1 b2 m1 m2 kL qA hr aX BW=>?_,fun c m r hc hr=>?_,H.cd,H.low,?_,fun b cs f cp aE hb=>?_,fun c m cs aE hc hg=>?_⟩
 ·have:=H.dZ b m hb;simp only[ab.size_push];omega
 ·simp only[ab.size_push]at hc;rw[ab.ai,if_neg om];exact H.high c om
 ·have h1:=H.dZ c m hc;obtain⟨p,p',k1,k2,k3⟩:=H.obj c m hc;exact⟨p,p',by rw[ab.ai,if_neg om];exact k1,k2,k3.mono μ.le_refl (by rw[cL H.wf o h1];exact id)⟩
 ·have h1:=H.dZ _ _ kL;have k1:=H.dZ _ _ qA;obtain⟨r,q1,q2,q3⟩:=H.alias b1 b2 m1 m2 kL qA hr aX BW;exact⟨r,by rw[im H.wf o h1];exact q1,by rw[im H.wf o k1];exact q2,by rw[lq o h1,lq o k1];exact q3⟩
 ·rw[im H.wf o (H.dZ _ _ hc)]at hr;exact H.cW c m r hc hr
 ·have:=H.jx;simp only[ab.size_push];omega
 ·rw[ab.ai]at hb;by_cases e:b=h.size
  ·rw[if_pos e,Option.some.injEq]at hb;have:=jz _ _ _ _ hb;omega
  ·rw[if_neg e]at hb;exact H.wf _ _ _ _ _ hb
 ·have:=H.dZ c m hc;rw[ab.ai,if_neg om]at hg;exact H.root c m cs aE hc hg
theorem aM.Ai (H:aM E base B μ h w) {b:Nat} {o:dV} {o':Obj} {m:MT} (hb:b<h.size) (hg:h.get b=some o) (hn:μ b=none) (aY:base≤b) (hB:B≤m.r) (hw:w.heap[m.r]? =some o')
 (uw:∀c mc,μ c=some mc→mc.r≠m.r) (jz:∀cs f cp aE,o= .cells cs f cp aE→f=b∧b≤cp) (Pc:∀cs aE,o= .cells cs b b aE→m.s=0) (ho:fR (il μ b m) h base b m o o'):aM E base B (il μ b m) h w:=by
 have hle:μ.le (il μ b m):=dO hn;have jQ:∀{c:Nat} {mc:MT},il μ b m c=some mc→(c=b∧mc=m)∨(c≠b∧μ c=some mc):=by
  intro c mc hc;by_cases e:c=b
  ·subst e;rw[bc]at hc;cases hc;exact .inl ⟨rfl,rfl⟩
  ·rw[lh _ _ e]at hc;exact .inr ⟨e,hc⟩
 refine⟨fun c mc hc=>?_,H.high,fun c mc hc=>?_,fun c mc hc VV=>?_,fun b1 b2 m1 m2 kL qA hr aX BW=>?_,fun c mc r hc hr=>?_,fun g EN=>?_,H.low,H.jx,H.wf,fun c mc cs aE hc EO=>?_⟩
 ·rcases jQ hc with⟨rfl,_⟩|⟨_,h2⟩
  ·exact hb
  ·exact H.dZ _ _ h2
 ·rcases jQ hc with⟨rfl,rfl⟩|⟨_,h2⟩
  ·exact⟨o,o',hg,hw,ho⟩
  ·obtain⟨p,p',k1,k2,k3⟩:=H.obj c mc h2;exact⟨p,p',k1,k2,k3.mono hle id⟩
 ·rcases jQ hc with⟨rfl,rfl⟩|⟨_,h2⟩
  ·exact hB
  ·exact H.own c mc h2 VV
 ·rcases jQ kL with⟨rfl,rfl⟩|⟨_,h2⟩<;>rcases jQ qA with⟨rfl,rfl⟩|⟨_,k2⟩
  ·exact absurd rfl aX
  ·exact absurd hr.symm (uw _ _ k2)
  ·exact absurd hr (uw _ _ h2)
  ·exact H.alias b1 b2 m1 m2 h2 k2 hr aX BW
 ·rcases jQ hc with⟨rfl,rfl⟩|⟨_,h2⟩
  ·obtain⟨cs,t,th,h1⟩:=dj hr;obtain⟨c0,h2⟩:=bz hr;rw[hg,Option.some.injEq]at h1;obtain⟨e1,e2⟩:=jz _ _ _ _ h1;rw[e1,hg,h1,Option.some.injEq,dV.cells.injEq]at h2;exact⟨om,om,mc,by rw[e1,bc]⟩
  ·obtain⟨q1,q2,m',q3⟩:=H.cW c mc r h2 hr;exact⟨q1,q2,m',hle _ _ q3⟩
 ·obtain⟨mc,q1,q2⟩:=H.cd g EN;exact⟨mc,hle _ _ q1,q2⟩
 ·rcases jQ hc with⟨rfl,rfl⟩|⟨_,h2⟩
  ·rw[hg,Option.some.injEq]at EO;exact Pc cs aE EO
  ·exact H.root c mc cs aE h2 EO
theorem yF {a b:Value} (h:fZ a b=true):a=b:=by
 unfold fZ at h;split at h
 ·simpa using h
 ·simp only[Bool.and_eq_true,beq_iff_eq]at h;rw[h.1,h.2]
 ·simp only[beq_iff_eq]at h;exact congrArg _ (ByteArray.ext (Array.ext' h))
 ·simp only[beq_iff_eq]at h;rw[h]
 ·simp only[Bool.and_eq_true,beq_iff_eq,beq_iff]at h;rw[h.1.1,h.1.2,h.2]
 ·simp only[beq_iff_eq]at h;rw[h]
 ·simp only[beq_iff_eq]at h;rw[h]
 ·rfl
 ·rfl
 ·simp only[Bool.and_eq_true,beq_iff_eq,beq_iff]at h;rw[h.1.1,h.1.2,h.2]
 ·simp only[Bool.and_eq_true,beq_iff]at h;obtain⟨⟨⟨⟨h0,h1⟩,h2⟩,h3⟩,h4⟩:=h;rw[h0,Array.eq_empty_of_size_eq_zero h1,Array.eq_empty_of_size_eq_zero h2,Array.eq_empty_of_size_eq_zero h3,Array.eq_empty_of_size_eq_zero h4]
 ·cases h
theorem nD:∀{a b:List Value},dL a b=true→a=b
 |[],[],_=>rfl
 |x::a,y::b,h=>by
  simp only[dL,Bool.and_eq_true]at h;rw[yF h.1,nD h.2]
 |[],_::_,h=>by simp[dL]at h
 |_::_,[],h=>by simp[dL]at h
theorem G2 {a b:Value} (h:zB a b=true):a=b:=by
 unfold zB at h;split at h
 ·rw[Array.ext' (nD h)]
 ·exact yF h
theorem yG:∀{a b:List MapEntry},tP a b=true→a=b
 |[],[],_=>rfl
 |x::a,y::b,h=>by
  simp only[tP,Bool.and_eq_true,beq_iff]at h;obtain⟨⟨⟨h1,h2⟩,h3⟩,h4⟩:=h;rw[yG h4];obtain⟨k,v,n⟩:=x;obtain⟨k',v',n'⟩:=y;simp only at h1 h2 h3;rw[G2 h1,G2 h2,h3]
 |[],_::_,h=>by simp[tP]at h
 |_::_,[],h=>by simp[tP]at h
theorem Cr {h h':ab} {q:RQ} (hs:eD h h' q=true) (hb:q.cO<h.size):q.run h'=q.run h:=by
 unfold eD at hs;rw[Bool.or_eq_true]at hs;rcases hs with hs|hs;rotate_left
 ·have:h=h':=of_decide_eq_true (inst:=Classical.propDecidable _) hs;rw[this]
 unfold jX at hs;rw[aF.2 hb]at hs;cases q with
 |cells agg b o n=>
  simp only[cond_true]at hs;simp only[RQ.run];split at hs
  ·rename_i l l' h1 h2;rw[h1,h2,nD hs]
  ·cases hs
 |look r kd k z ok=>
  simp only[cond_true]at hs;simp only[RQ.run];split at hs
  ·rename_i l l' h1 h2;rw[h1,h2];simp only[Option.bind_some];rw[yG hs]
  ·cases hs
 |len r=>
  simp only[cond_true]at hs;simp only[RQ.run];split at hs
  ·rename_i l l' h1 h2;rw[h1,h2];simp only[Option.bind_some];rw[yG hs]
  ·cases hs
theorem G3 {h:ab} {q:RQ} {o:dV} (hs:oH h q=true) (hb:q.cO<h.size):q.run (h.push o)=q.run h:=by
 unfold oH at hs;rw[aF.2 hb]at hs;simp only[cond_true]at hs;have hg:(h.push o).get q.cO=h.get q.cO:=by rw[ab.ai,if_neg om]
 cases q with
 |cells agg b o' n=>
  simp only[RQ.cO]at hs hb hg;have hf:(h.push o).cW b=h.cW b:=by
   unfold ab.cW;rw[hg];split
   ·rename_i cs f cp aE he;rw[he]at hs;simp only[aF]at hs;rw[ab.ai,if_neg om]
   ·rfl
  simp only[RQ.run,ah,ab.rd,hf,ab.cellsOf,hg]
 |look r kd k z ok=>
  simp only[RQ.cO]at hg;simp only[RQ.run,dB,hg]
 |len r=>
  simp only[RQ.cO]at hg;simp only[RQ.run,dB,hg]
end
end Go.M
end
