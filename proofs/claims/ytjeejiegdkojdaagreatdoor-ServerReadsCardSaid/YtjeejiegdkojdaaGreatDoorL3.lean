/-
  Part 3 of the library that the proof leans on.
-/
import Derived.Test.YtjeejiegdkojdaaGreatDoorL2
import Derived.Lib.ConvBytes
import Derived.Laws.BytesString
import Derived.RangeFuncLeaves
import Derived.LoopNIn
import Derived.RangeFuncCalls
import Derived.OrdersIn
namespace Go.M
open Go
section
variable {P:Program} {E:Env} {μ:bn} {f:AF} {a:Act} {base B:Nat} {h:ab} {w:World}
theorem DO:∀{l:List Value} {ns:List Int},Na l=some ns→l=ns.map (Value.int .u8)
 |[],ns,h=>by simp[Na]at h;subst h;rfl
 |v::l,ns,h=>by
  cases v<;>try(simp[Na]at h;done)
  rename_i k n;cases k<;>try(simp[Na]at h;done)
  simp only[Na,Option.bind_eq_some_iff,Option.some.injEq]at h;obtain⟨r,h1,rfl⟩:=h;rw[DO h1];rfl
theorem GH (ns:List Int):ns.foldl (fun r n=>r.push (UInt8.ofNat n.toNat)) ByteArray.empty=strOf ns:=by
 have key:∀(ns:List Int) (s:ByteArray),ns.foldl (fun r n=>r.push (UInt8.ofNat n.toNat)) s=⟨s.data++(ns.map fun n=>UInt8.ofNat n.toNat).toArray⟩:=by
  intro ns
  induction ns with
  |nil=>intro s;simp
  |cons n ns ih=>
   intro s;rw[List.foldl_cons,ih];simp[ByteArray.push]
 rw[key];unfold strOf;simp[ByteArray.empty,ByteArray.emptyWithCapacity]
 try rfl
theorem ay.scalars {μ:bn} {l l':List Value} (h:ay μ l l'):l.all scalar=true→l=l':=by
 induction h with
 |nil=>intro _;rfl
 |cons h _ ih=>
  intro hs;simp only[List.all_cons,Bool.and_eq_true]at hs;rw[h.ax hs.1,ih hs.2]
theorem BS {d:TypeDesc} (h:Gv d=true):d= .int .u8:=by
 unfold Gv at h;split at h
 ·rfl
 ·cases h
theorem Step.cZ {w':World} (H:bh E base B μ h w) {b:Nat} {m:MT} (hb:μ b=some m) (bt:base≤b) {c:Array Value} {e:TypeId} {fr MR:Nat×Nat} (gL:w.heap[m.r]? =some (.cells c e fr)) (hf:mH MR c.size) (hu:z8 w m.r (.cells c e MR) w'):Step E base B μ h w μ h w':=by
 refine⟨⟨H.gh,H.high,fun b' m' bX=>?_,H.own,H.alias,H.dr,H.dc,by rw[hu.size];exact H.low,H.l5,H.wf,H.root⟩,⟨hu.tape,hu.os,hu.output,by rw[hu.size];exact Nat.le_refl _,fun r hr hk=>?_⟩,μ.le_refl,(fun c mc h0 hc=>by rw[h0]at hc;cases hc),fun _ _ _=>rfl,Nat.le_refl _⟩
 ·obtain⟨o,o',k1,k2,k3⟩:=H.obj b' m' bX;by_cases er:m'.r=m.r
  ·rw[er,gL]at k2;cases k2;refine⟨o,.cells c e MR,k1,by rw[er,hu.get,if_pos rfl],?_⟩;cases k3 with
   |cells hn hl zr hc=>exact .cells hn hl (fun _=>by rw[←hn];exact hf) hc
   |gZ hp hs hc hn=>exact .gZ hp hs hc hn
  ·exact⟨o,o',k1,by rw[hu.get,if_neg er];exact k2,k3⟩
 ·rw[hu.get,if_neg];intro e;have:=hk b m hb e.symm;omega
theorem run_mark (w:World) {r:Nat} {off:Nat} {c:Array Value} {e:TypeId} {fr:Nat×Nat} (gL:w.heap[r]? =some (.cells c e fr)) (u8 src:TypeId) (hs:P.underlying src=some (.slice u8)) (he:P.underlying u8=some (.int .u8)) (len cap:Nat):
 ∃w',(convert src src (.slice (some ⟨r,off,none⟩) len cap)).run P w= .ok (.slice (some ⟨r,off,none⟩) len cap) w'∧z8 w r (.cells c e (if fr.1==fr.2 then(c.size,c.size+1)else(min fr.1 c.size,max fr.2 (c.size+1)))) w':=by
 have hsh:w.shape? r=some (e,c.size):=by simp[World.shape?,gL]
 refine⟨w.freeze ⟨r,c.size,none⟩ 1,?_,?_⟩
 ·simp[convert,run_underlying hs,run_underlying he,markStringish,hsh]
 ·have bH:r<w.heap.size:=(Array.getElem?_eq_some_iff.1 gL).1;refine⟨by simp[World.freeze],by simp[World.freeze],by simp[World.freeze],by simp[World.freeze],fun k=>?_⟩;by_cases ek:k=r
  ·subst ek;rw[if_pos rfl];simp[World.freeze,Array.getElem?_modify,gL]
  ·rw[if_neg ek];simp[World.freeze,Array.getElem?_modify,Ne.symm ek]
theorem Nz (hE:bu P E) (H:bh E base B μ h w) {s d:TypeId} {x x' v:Value} {h':ab} (ha:qV E base h s d x=some (v,h')) (hx:au μ x x'):j7 P E base B μ h w (convert s d x') v h':=by
 unfold qV at ha;simp only[Option.bind_eq_some_iff]at ha;obtain⟨sd,hs,dd,hd,ha⟩:=ha;split at ha
 ·rename_i e str;simp only[Option.bind_eq_some_iff,ai,Option.some.injEq]at ha;obtain⟨ed,he,hu,ha⟩:=ha;cases BS hu;cases hx.ax rfl;have gD:=Lib.run_convert_string_bytes (P:=P) w s d e str (hE.desc s _ hs) (hE.desc d _ hd) (hE.desc e _ he);have fL:(Lib.bytesCells w e str).size=grownCap w str.size 0 e:=by
   have:str.size≤grownCap w str.size 0 e:=by simp[grownCap,Question.cut]
   simp[Lib.bytesCells];have e:str.data.size=str.size:=rfl;omega
  have hle:str.size≤grownCap w str.size 0 e:=by simp[grownCap,Question.cut]
  let N:=grownCap w str.size 0 e
  have cW:DC w (.cells (Lib.bytesCells w e str) e (N,N+1)) (Lib.bytesWorld w e str):=by
   refine⟨by simp[Lib.bytesWorld,World.freeze,World.alloc,World.drew,-World.alloc_eq,-World.drew_eq],by simp[Lib.bytesWorld,World.freeze,World.alloc,World.drew,-World.alloc_eq,-World.drew_eq],by simp[Lib.bytesWorld,World.freeze,World.alloc,World.drew,-World.alloc_eq,-World.drew_eq],Lib.bytesWorld_size w e str,fun k=>?_⟩;by_cases ek:k=w.heap.size
   ·subst ek;rw[if_pos rfl,Lib.bytesWorld_at_new,fL]
   ·rw[if_neg ek];rcases Nat.lt_or_ge k w.heap.size with h1|h1
    ·exact Lib.bytesWorld_at_old w e str k h1
    ·rw[Array.getElem?_eq_none h1,Array.getElem?_eq_none (by rw[Lib.bytesWorld_size];omega)]
  have uc:∀(i:Nat) u,(fw str)[i]? =some u→∃u',(Lib.bytesCells w e str)[i]? =some u'∧∀aU,au aU u u':=by
   intro i u hu;have hi:=(List.getElem?_eq_some_iff.1 hu).1;refine⟨u,?_,fun aU=>?_⟩
   ·unfold Lib.bytesCells;rw[Array.getElem?_append_left (by simpa[fw]using hi),←Array.getElem?_toList,Array.toList_map];exact hu
   ·simp only[fw,List.getElem?_map,Option.map_eq_some_iff]at hu;obtain⟨b,_,rfl⟩:=hu;exact .int _ _ _
  have st:=Step.alloc H cW N (o:=.cells (fw str) h.size h.size 0) (fun cs f cA aQ hh=>by cases hh;exact⟨rfl,rfl⟩) (by
   refine .cells fL (by simp[fw];exact hle) (fun _=>Nc N) fun _ i u hu=>?_;obtain⟨u',q1,q2⟩:=uc i u hu;exact⟨u',by simpa using q1,q2 _⟩)
  have e1:fresh h (fw str) 1 str.size=(.slice (some ⟨h.size,0,some 1⟩) str.size (str.size+1),h.push (.cells (fw str) h.size h.size 0)):=rfl;rw[e1]at ha;obtain⟨rfl,rfl⟩:=Prod.mk.inj ha;refine⟨_,_,_,gD,?_,st⟩;have:=au.slice (o:=0) (z:=1) (len:=str.size) (cap:=str.size+1) (cap':=N) (bN μ h.size ⟨w.heap.size,0,N⟩) om hle (fun h=>by omega) (by simp);simpa using this
 ·rename_i e b o z len cap;simp only[Option.bind_eq_some_iff,ai,Bool.and_eq_true,beq_iff,aG,aS]at ha;obtain⟨ed,he,⟨⟨⟨⟨hu,Yw⟩,bt⟩,fP⟩,qE⟩,ha⟩:=ha;cases BS hu;subst Yw;split at ha
  ·rename_i e2;rw[hs]at hd;cases hd;simp only[Option.some.injEq,Prod.mk.injEq]at ha;obtain⟨rfl,rfl⟩:=ha;obtain⟨cs,o7⟩:=Option.isSome_iff_exists.1 fP;generalize hq:Value.slice (some ⟨b,o,some z⟩) len cap=q at hx;cases hx with
   |slice hb k1 k2 k3 k4=>
    cases hq;obtain⟨c,e',fr,q1,q2,q3,q4,q5⟩:=H.read hb o7;obtain⟨w',r1,r2⟩:=run_mark (P:=P) w q1 e s (hE.desc s _ hs) (hE.desc e _ he) _ _;refine⟨μ,_,w',r1,.slice hb k1 k2 k3 k4,Step.cZ H hb bt q1 ?_ r2⟩;have:=q4 bt;rw[←q2]at this;exact this.mark
   |cP hb=>
    cases hq;omega
   |lit hh=>subst hq;simp[aC]at hh
   |_=>cases hq
  ·cases ha
 ·rename_i a len cap;split at ha
  ·rename_i e;simp only[Option.bind_eq_some_iff,ai]at ha;obtain⟨ed,he,hu,ha⟩:=ha;cases BS hu;have conv:=fun(a':Option Addr) (c' l':Nat)=>run_convert_bytes_string (P:=P) w s d e a' l' c' (hE.desc s _ hs) (hE.desc e _ he) (hE.desc d _ hd)
   have fin:∀(ns:List Int) (ad:Addr) (l' c':Nat),x'= .slice (some ad) l' c'→(loadCells ad l').run P w= .ok (ns.map (Value.int .u8)).toArray w→j7 P E base B μ h w (convert s d x') (.string (strOf ns)) h:=by
    intro ns ad l' c' ex hld;refine⟨μ,_,w,by rw[ex,conv,run_bytesToString w ad l' c' ns hld,GH],.string μ _,.refl H⟩
   rw[bY]at ha;split at ha
   ·rename_i h0;rw[beq_iff]at h0;subst h0;simp only[Option.some.injEq,Prod.mk.injEq]at ha;obtain⟨rfl,rfl⟩:=ha;generalize hq:Value.slice a 0 cap=q at hx;cases hx with
    |slice hb k1 k2 k3 k4=>cases hq;exact fin [] _ _ _ rfl (by simp[loadCells,loadCellsFrom])
    |cP hb=>cases hq;exact fin [] _ _ _ rfl (by simp[loadCells,loadCellsFrom])
    |lit hh=>
     subst hq;cases a with
     |none=>exact⟨μ,_,w,by rw[conv];simp[Conv.bytesToString];rfl,.string μ _,.refl H⟩
     |some a=>simp[aC]at hh
    |_=>cases hq
   simp only[Option.bind_eq_some_iff,Option.some.injEq,Prod.mk.injEq]at ha;obtain⟨l,hl,ns,BO,rfl,rfl⟩:=ha;have el:=DO BO;unfold fm at hl;split at hl
   ·rename_i b o z Ri Zh ex;cases ex;generalize hq:Value.slice (some ⟨b,o,some z⟩) len cap=q at hx;cases hx with
    |slice hb k1 k2 k3 k4=>
     rename_i m;cases hq;obtain⟨l',r1,r2⟩:=H.z9 hb hl;have oN:=(H.ae hb hl).1;have e2:l'=ns.map (Value.int .u8):=by
      have:=ay.scalars r1 (by
       rw[el,List.all_eq_true];intro v hv;obtain⟨n,_,rfl⟩:=List.mem_map.1 hv;rfl)
      rw[←el,this]
     refine fin ns _ _ _ rfl ?_;simp only[loadCells];have Gk:l'.length=len:=by rw[←r1.length,oN];omega
     rw[run_loadCells len 0 #[] l' Gk (fun k v hv=>by rw[gM];have:=r2 k v hv;simpa[World.cell?]using this)];simp[e2]
    |cP hb=>
     cases hq;have:=zD (by simpa using hl);subst this;simp[Na]at BO;subst BO;exact fin [] _ _ _ rfl (by simp[loadCells,loadCellsFrom])
    |lit hh=>subst hq;simp[aC]at hh
    |_=>cases hq
   ·rename_i Ri Zh ex;cases ex;simp only[Option.some.injEq]at hl;subst hl;simp[Na]at BO;subst BO;cases hx with
    |lit hh=>
     refine⟨μ,_,w,by rw[conv];simp[Conv.bytesToString];rfl,.string μ _,.refl H⟩
   ·rename_i ex;cases ex
   ·cases hl
  ·cases ha
 ·cases ha
end
section
variable {P:Program} {E:Env} {μ:bn} {f:AF} {a:Act} {base B:Nat} {h:ab} {w:World}
theorem BT {a b:ByteArray} (h:(a==b)=true):a=b:=by
 rw[beq_toListBytes,ByteArray.toList_eq,ByteArray.toList_eq]at h;have:=eq_of_beq h;obtain⟨⟨x⟩⟩:=a;obtain⟨⟨y⟩⟩:=b;simp at this;rw[this]
def Zp (nx:Next) (v':Value):Prop:=nx= .value v'∨(nx= .skip∧v'=undef)
set_option maxHeartbeats 1000000 in
set_option maxHeartbeats 1000000 in
theorem xe (hE:bu P E) (hf:cY μ f a.tmps) (H:bh E base B μ h w) {o:Oper} {v:Value} {h':ab} (ha:da E base f o h=some (.val v,h')):
 ∃aU nx v' w',(execOp a.eval o).run P w= .ok nx w'∧Zp nx v'∧au aU v v'∧Step E base B μ h w aU h' w':=by
 have hg:gB E μ:=H.dc;obtain⟨dst,op,type,pos,after,guard⟩:=o;cases op
 case store t x y=>
  simp only[da,Option.bind_eq_some_iff,ai,Bool.and_eq_true,beq_iff,Option.some.injEq,Prod.mk.injEq,lY.val.injEq]at ha;obtain⟨av,h1,v1,h2,n,h3,p,h4,⟨h5,iu⟩,cs,fP,cs',cQ,h6,oL,rfl,rfl⟩:=ha;have e:=kR h4;subst e;obtain⟨m,hb,ex⟩:=(a9 hg hf h1).kl;have hv:=a9 hg hf h2;obtain⟨w',q1,q2⟩:=ug (P:=P) H hb fP cQ oL hv.cells iu;refine⟨μ,.skip,undef,w',?_,.inr ⟨rfl,rfl⟩,.undef μ,q2⟩;have fL:(a.eval y).cells.size=n:=by rw[←hv.wT];exact h5
  simp only[execOp,Instr.storeAt,Sem.run_bind,ex,Instr.sureAddr,Sem.run_pure,Result.andThen_ok,storeVar,fR hE h3 w];rw[if_neg (by simpa using fL)];simp only[q1,Result.andThen_ok]
 case mapUpdate t mm kk x|insert t mm kk x=>
  simp only[da,Option.bind_eq_some_iff,Option.some.injEq,Prod.mk.injEq,lY.val.injEq]at ha;obtain⟨mv,h1,k,h2,v1,h3,h4,h5,rfl,rfl⟩:=ha;unfold nv at h5;simp only[Option.bind_eq_some_iff]at h5;obtain⟨d,hd,h5⟩:=h5;split at h5
  ·rename_i kt et r;simp only[Option.bind_eq_some_iff,ai,Bool.and_eq_true,aG]at h5;obtain⟨kd,iH,⟨⟨bt,bW⟩,Ac⟩,h5⟩:=h5;split at h5
   ·rename_i es clock Nw;obtain⟨m,hb,ex⟩:=(a9 hg hf h1).lF;have ek:=(a9 hg hf h2).ax Ac;have hv:=a9 hg hf h3;obtain⟨o1,o2,k1,k2,k3⟩:=H.obj r m hb;rw[Nw]at k1;cases k1;cases k3 with
    |map hs=>
     rename_i bS;simp only[Option.bind_eq_some_iff]at h5;obtain⟨fr,Aa,h5⟩:=h5;obtain⟨MR,q1,q2,q3⟩:=jI hs Aa;have Kh:(Instr.findKey kt k bS.toList).run P w= .ok MR w:=by
      simp only[Instr.findKey,Sem.run_bind,aH hE iH w,Result.andThen_ok,q1,Sem.run_pure]
     have kr:=kS (P:=P) hE iH bW false 9999 k w;have pW:=run_getObj_map (P:=P) k2 (fun _ _ _=>by simp);have IQ:=fun o=>cg (P:=P) (o:=o) k2 (fun _ _ _=>by simp);have hkr:au μ k k:=.pU μ Ac;cases fr with
     |none=>
      have e:=q2 rfl;subst e;simp only[Option.some.injEq]at h5;subst h5;have st:=Step.put (o:=.map (es++[{key:=k,val:=v1,born:=clock}]) (clock+1)) H hb bt Nw rfl rfl (z8.set w m.r (.map (bS.push {key:=k,val:=a.eval x,born:=clock}) (clock+1)) (H.lt hb)) (.map (by
       simpa using hs.append (cB.cons (e:={key:=k,val:=v1,born:=clock}) (e':={key:=k,val:=a.eval x,born:=clock}) hkr hv rfl .nil)))
      refine⟨μ,.skip,undef,_,?_,.inr ⟨rfl,rfl⟩,.undef μ,st⟩;simp only[execOp,Instr.mapUpdate,Sem.run_bind,aH hE hd w,Result.andThen_ok,ex,ek,pW,kr,Kh,IQ];rfl
     |some jv=>
      obtain⟨v',e,hr⟩:=q3 jv.1 jv.2 rfl;subst e;simp only[Option.some.injEq]at h5;subst h5;have hsb:Instr.sameBits 10000 (((bS[jv.1]?).map (·.key)).getD k) k=true:=by
       have hh:∀{es:List MapEntry} {i j:Nat} {v:Value},Instr.findNow kd k es i=some (some (j,v))→∃e,es[j - i]? =some e∧e.key=k∧i≤j:=by
        intro es
        induction es with
        |nil=>intro i j v hq;simp[Instr.findNow]at hq
        |cons e0 es0 ih=>
         intro i j v hq;simp only[Instr.findNow]at hq;split at hq
         ·rename_i NA;simp only[Option.some.injEq,Prod.mk.injEq]at hq;obtain⟨rfl,_⟩:=hq;refine⟨e0,by simp,?_,Nat.le_refl _⟩;unfold Instr.sameNow at NA;split at NA
          ·rename_i z1;split at NA
           ·rename_i z2;subst z2;simp only[Option.some.injEq,beq_iff_eq]at NA;rw[z1,NA]
           ·cases NA
          ·rename_i z1;simp only[Option.some.injEq]at NA;rw[z1,BT NA]
          ·rename_i z1;simp only[Option.some.injEq,beq_iff_eq]at NA;rw[z1,NA]
          ·cases NA
         ·obtain⟨e1,p1,p2,p3⟩:=ih hq;refine⟨e1,?_,p2,om⟩;have:j - i=(j - (i+1))+1:=by omega
          rw[this];simpa using p1
         ·cases hq
       obtain⟨e1,p1,p2,_⟩:=hh q1;have p1':bS[jv.1]? =some e1:=by simpa using p1
       rw[p1'];simp only[Option.map_some,Option.getD_some,p2];cases k<;>simp[scalar]at Ac<;>first|(simp[Instr.sameBits];done)|(simp only[Instr.sameBits];rw[beq_toListBytes];simp)
      have st:=Step.put (o:=.map (es.modify jv.1 fun e=>{e with key:=k,val:=v1}) clock) H hb bt Nw rfl rfl (z8.set w m.r (.map (bS.modify jv.1 fun e=>{e with key:=k,val:=a.eval x}) clock) (H.lt hb)) (.map (by
       have:=hs.modify (g:=fun e=>{e with key:=k,val:=v1}) (g':=fun e=>{e with key:=k,val:=a.eval x}) (fun e e' _ _ hb=>⟨hkr,hv,hb⟩) jv.1;simpa using this))
      refine⟨μ,.skip,undef,_,?_,.inr ⟨rfl,rfl⟩,.undef μ,st⟩;simp only[execOp,Instr.mapUpdate,Sem.run_bind,aH hE hd w,Result.andThen_ok,ex,ek,pW,kr,Kh];unfold Instr.keyThatStays;rw[hsb];simp only[if_true,Sem.run_pure,Result.andThen_ok,IQ]
   ·cases h5
  ·cases h5
 case range t x=>
  simp only[da,Option.bind_eq_some_iff]at ha;obtain⟨d,hd,v1,h1,ha⟩:=ha;split at ha
  ·rename_i kt et r;split at ha
   ·rename_i es clock Nw;simp only[Option.some.injEq,Prod.mk.injEq,lY.val.injEq]at ha;obtain⟨rfl,rfl⟩:=ha;obtain⟨m,hb,ex⟩:=(a9 hg hf h1).lF;obtain⟨o1,o2,k1,k2,k3⟩:=H.obj r m hb;rw[Nw]at k1;cases k1;cases k3 with
    |map hs=>
     have pW:=run_getObj_map (P:=P) k2 (fun _ _ _=>by simp);have hle:μ.le (kN μ h.size ⟨w.heap.size,0,0⟩):=gA H.fresh;have st:=Step.alloc (o:=.cy (some r) clock [] clock) H (DC.mk' w (.mapIter (some m.r) clock #[] clock)) 0 (fun _ _ _ _ hh=>by cases hh) (by
      have:=iX.cy (μ:=kN μ h.size ⟨w.heap.size,0,0⟩) (h:=h.push (.cy (some r) clock [] clock)) (base:=base) (b:=h.size) (m:=⟨w.heap.size,0,0⟩) (since:=clock) (last:=clock) (seen:=[]) (hle _ _ hb) rfl;simpa using this)
     refine⟨_,_,.pointer (some ⟨w.heap.size,0,none⟩),_,?_,.inl rfl,?_,st⟩
     ·simp only[execOp,Instr.range,Sem.run_bind,aH hE hd w,Result.andThen_ok,ex,pW,Sem.run_pure,run_newObj]
     ·have:=au.ptr (o:=0) (bN μ h.size ⟨w.heap.size,0,0⟩);simpa using this
   ·cases ha
  ·cases ha
 case convert sT d x=>
  simp only[da,Option.bind_eq_some_iff,Option.some.injEq,Prod.mk.injEq,lY.val.injEq]at ha;obtain⟨v1,h1,⟨v2,Ub⟩,h3,rfl,rfl⟩:=ha;obtain⟨aU,v',w',q1,q2,q3⟩:=Nz (P:=P) hE H h3 (a9 hg hf h1);refine⟨aU,.value v',v',w',?_,.inl rfl,q2,q3⟩;simp only[execOp,Sem.run_bind,q1,Result.andThen_ok,Sem.run_pure]
 case next it isStr=>
  simp only[da,Option.bind_eq_some_iff,Option.some.injEq,Prod.mk.injEq,lY.val.injEq]at ha;obtain⟨v1,h1,r,h2,⟨v2,Ub⟩,h3,rfl,rfl⟩:=ha;have e:=pc h2;subst e;obtain⟨m,hb,ex⟩:=(a9 hg hf h1).kl;have gN:m.s=0:=by
   obtain⟨o1,o2,k1,k2,k3⟩:=H.obj r m hb;unfold IE at h3;simp only[ai]at h3;cases k3 with
   |jb hs=>exact hs
   |l4 hs=>exact hs
   |cy _ hs=>exact hs
   |_=>rw[k1]at h3;simp at h3
  obtain⟨aU,v',w',q1,q2,q3⟩:=Nv (P:=P) H type h3 hb;refine⟨aU,.value v',v',w',?_,.inl rfl,q2,q3⟩;rw[gN]at ex;simp only[execOp,Sem.run_bind,ex,q1,Result.andThen_ok,Sem.run_pure]
 case entry it=>
  simp only[da,Option.bind_eq_some_iff,Option.some.injEq,Prod.mk.injEq,lY.val.injEq]at ha;obtain⟨v1,h1,r,h2,v2,h3,rfl,rfl⟩:=ha;have e:=pc h2;subst e;obtain⟨m,hb,ex⟩:=(a9 hg hf h1).kl;have gN:m.s=0:=by
   obtain⟨o1,o2,k1,k2,k3⟩:=H.obj r m hb;unfold oX at h3;cases k3 with
   |jb hs=>exact hs
   |l4 hs=>exact hs
   |cy _ hs=>exact hs
   |_=>rw[k1]at h3;simp at h3
  obtain⟨v',q1,q2⟩:=Kj (P:=P) H h3 hb;refine⟨μ,.value v',v',w,?_,.inl rfl,q1,.refl H⟩;rw[gN]at ex;simp only[execOp,Sem.run_bind,ex,q2,Result.andThen_ok,Sem.run_pure]
 case call c=>
  simp only[da,Option.bind_eq_some_iff]at ha;obtain⟨args,h1,ha⟩:=ha;have hr:=kq hg hf h1;split at ha
  ·rename_i b BR;simp only[Option.bind_eq_some_iff,Option.some.injEq,Prod.mk.injEq,lY.val.injEq]at ha;obtain⟨⟨v1,zq⟩,h2,rfl,rfl⟩:=ha;obtain⟨s,⟨aU,v',w',q1,q2,q3⟩,hs⟩:=GF hE H (ts:=c.argTypes) (args':=c.args.map a.eval) type h2 (by simpa using hr);refine⟨aU,.value v',v',w',?_,.inl rfl,q2,q3⟩;simp only[execOp,resolve,BR,Sem.run_bind,Sem.run_pure,Result.andThen_ok,invoke];rw[hs _];simp only[Sem.run_bind,q1,Result.andThen_ok,Sem.run_pure]
  ·simp only[Option.bind_eq_some_iff]at ha;obtain⟨g,_,ha⟩:=ha;split at ha<;>simp at ha
  ·cases ha
 all_goals(simp only[da]at ha;cases ha)
theorem rq (hE:bu P E) (hf:cY μ f a.tmps) (H:bh E base B μ h w) {o:Oper} {g:FuncId} {args:List Value} {h':ab} (ha:da E base f o h=some (.enter g args,h')) (xf:(E.func g).isSome=true):
 ∃args':Array Value,h'=h∧ay μ args args'.toList∧(execOp a.eval o).run P w= .ok (.enter g args') w:=by
 have hg:gB E μ:=H.dc;obtain⟨dst,op,type,pos,after,guard⟩:=o;cases op
 case call c=>
  simp only[da,Option.bind_eq_some_iff]at ha;obtain⟨asv,h1,ha⟩:=ha;have hr:=kq hg hf h1;split at ha
  ·simp only[Option.bind_eq_some_iff,Option.some.injEq,Prod.mk.injEq]at ha;obtain⟨_,_,h2,_⟩:=ha;cases h2
  ·rename_i gx BR;simp only[Option.bind_eq_some_iff]at ha;obtain⟨gv,h2,ha⟩:=ha;split at ha
   ·rename_i gid first captured
    simp only[Option.some.injEq,Prod.mk.injEq,lY.enter.injEq]at ha;obtain⟨⟨rfl,rfl⟩,rfl⟩:=ha;have zt:=a9 hg hf h2;generalize hq:a.eval gx=q at zt;cases zt with
    |lit hh=>simp[aC]at hh
    |func q1 q2 q3 q4=>
     rename_i ru jg;refine⟨ru++c.args.map a.eval++jg,rfl,?_,?_⟩
     ·simp only[Array.toList_append,Array.toList_map];exact((ay.ny q1 q2).append hr).append (ay.ny q3 q4)
     ·obtain⟨fn,Zq⟩:=Option.isSome_iff_exists.1 xf;obtain⟨f1,f2,f3⟩:=hE.func _ _ Zq;have hb:fn.body.isNone=false:=by cases hx:fn.body<;>simp_all
      simp only[execOp,resolve,BR,Sem.run_bind,Sem.run_pure,Result.andThen_ok,hq,Deferred.ofValue,invoke,callFunc,run_program,f1,f3,hb,Bool.false_eq_true,if_false]
   ·simp at ha
   ·cases ha
  ·cases ha
 all_goals(simp only[da]at ha;first|cases ha|(simp only[Option.bind_eq_some_iff,Option.some.injEq,Prod.mk.injEq,ai,reduceCtorEq,false_and,and_false,exists_false]at ha)|skip)
 case range t x=>
  obtain⟨_,_,_,_,ha⟩:=ha;split at ha
  ·split at ha<;>simp at ha
  ·cases ha
theorem ry (hf:cY μ f a.tmps) (H:bh E base B μ h w) {o:Oper} {l:Nat} {args:List Value} {h':ab} (ha:da E base f o h=some (.round l args,h')) {st:LoopState} {p:Option Code} {f0:AF} {ps:List Tmp} {iW body:Code}
 (hl:h.get l=some (.loop st p f0 ps iW body)) (hlen:ps.length=args.length):
 ∃(m:MT) (args':List Value) (lo:Loop),h'=h∧μ l=some m∧w.heap[m.r]? =some (.loop lo)∧ay μ args args'∧
  (execOp a.eval o).run P w= .ok (.round m.r lo.fn ((ps.zip args').foldl (fun tmps (t,a)=>tmps.setIfInBounds t a) lo.tmps) iW body) w∧cY μ f0 lo.tmps:=by
 have hg:gB E μ:=H.dc;obtain⟨dst,op,type,pos,after,guard⟩:=o;cases op
 case call c=>
  simp only[da,Option.bind_eq_some_iff]at ha;obtain⟨asv,h1,ha⟩:=ha;have hr:=kq hg hf h1;split at ha
  ·simp only[Option.bind_eq_some_iff,Option.some.injEq,Prod.mk.injEq]at ha;obtain⟨_,_,h2,_⟩:=ha;cases h2
  ·rename_i gx BR;simp only[Option.bind_eq_some_iff]at ha;obtain⟨gv,h2,ha⟩:=ha;split at ha
   ·simp at ha
   ·rename_i l0 first captured
    simp only[Option.some.injEq,Prod.mk.injEq,lY.round.injEq]at ha;obtain⟨⟨rfl,rfl⟩,rfl⟩:=ha;have zt:=a9 hg hf h2;generalize hq:a.eval gx=q at zt;cases zt with
    |lit hh=>simp[aC]at hh
    |yield hb=>
     rename_i m;obtain⟨o1,o2,k1,k2,k3⟩:=H.obj l0 m hb;rw[hl]at k1;cases k1;cases k3 with
     |loop Aa=>
      rename_i fn tmps d;have pW:=run_getObj_map (P:=P) k2 (fun _ _ _=>by simp);refine⟨m,c.args.toList.map a.eval,_,rfl,hb,k2,by simpa using hr,?_,Aa⟩;have Gk:=hr.length;have fL:(c.args.map a.eval).size=ps.toArray.size:=by
       simp at hlen Gk ⊢;omega
      simp only[execOp,resolve,BR,Sem.run_bind,Sem.run_pure,Result.andThen_ok,hq,Deferred.ofValue,invoke,Instr.yield,Instr.getLoop,pW];rw[if_neg (by simpa using fL)];have ez:(ps.toArray.zip (#[]++c.args.map a.eval))=(ps.zip (c.args.toList.map a.eval)).toArray:=by
       apply Array.ext';simp
      simp only[ez,Sem.run_pure,List.foldl_toArray]
   ·cases ha
  ·cases ha
 all_goals(simp only[da]at ha;first|cases ha|(simp only[Option.bind_eq_some_iff,Option.some.injEq,Prod.mk.injEq,ai,reduceCtorEq,false_and,and_false,exists_false]at ha)|skip)
 case range t x=>
  obtain⟨_,_,_,_,ha⟩:=ha;split at ha
  ·split at ha<;>simp at ha
  ·cases ha
end
structure gO (F:Fence):Prop where
 fn:∀f,F.fn f
 depth:F.depth=none
 dead:F.alive=false
theorem gO.inRound {F:Fence} (h:gO F) (l:Nat):gO (F.inRound l):=⟨h.fn,h.depth,h.dead⟩
theorem gO.plain {F:Fence} (h:gO F):gO F.plain:=⟨h.fn,h.depth,h.dead⟩
theorem gO.wide:gO Fence.wide:=⟨fun _=>trivial,rfl,rfl⟩
theorem gO.ok {F:Fence} (h:gO F) (n:Nat):F.depth.isSome=true→1≤n:=by rw[h.depth];intro h;simp at h
def lI (E:Env) (base B:Nat) (μ:bn) (h:ab) (w:World) (v:Value) (h':ab):Ending→World→Prop:=
 fun e w'=>∃v' aU,e= .returned v'∧au aU v v'∧Step E base B μ h w aU h' w'
def j8 (P:Program) (E:Env) (base B:Nat) (cf:fJ):Prop:=
 ∀(μ:bn) (h:ab) (w:World) (g:FuncId) (args:List Value) (args':Array Value) (v:Value) (h':ab),cf g args h=some (v,h')→ay μ args args'.toList→bh E base B μ h w→
  ∀(F:Fence) (n:Nat),gO F→CallsIn F n P g args' w (lI E base B μ h w v h')
def nH (P:Program) (E:Env) (base B:Nat) (rf:eS):Prop:=
 ∀(μ:bn) (h:ab) (w:World) (l:Nat) (args:List Value) (v:Value) (h':ab) (m:MT) (f0:AF) (ps:List Tmp) (iW body:Code) (st:LoopState) (p:Option Code) (fn:FuncId) (tmps:Array Value),
  rf l args h=some (v,h')→h.get l=some (.loop st p f0 ps iW body)→μ l=some m→bh E base B μ h w→cY μ (AF.jZ (ps.zip args) f0) tmps→
  ∀(F:Fence) (n:Nat),gO F→RoundIn F n P m.r fn tmps iW body w (lI E base B μ h w v h')
def nJ (E:Env) (cf:fJ):Prop:=∀g args h r,cf g args h=some r→(E.func g).isSome=true
def kT (rf:eS):Prop:=∀l args h r,rf l args h=some r→∃st p f0 ps iW body,h.get l=some (.loop st p f0 ps iW body)∧ps.length=args.length
section
variable {P:Program} {E:Env} {μ:bn} {f:AF} {a:Act} {base B:Nat} {h:ab} {w:World} {cf:fJ} {rf:eS}
theorem nK {μ:bn}:∀{ps:List Tmp} {args args':List Value} {f:AF} {tmps:Array Value},cY μ f tmps→ay μ args args'→cY μ (AF.jZ (ps.zip args) f) ((ps.zip args').foldl (fun tmps (t,a)=>tmps.setIfInBounds t a) tmps)
 |[],args,args',f,tmps,hf,_=>by simpa[AF.jZ]using hf
 |p::ps,_,_,f,tmps,hf,.nil=>by simpa[AF.jZ]using hf
 |p::ps,_,_,f,tmps,hf,.cons hv ht=>by
  simp only[List.zip_cons_cons,AF.jZ,List.foldl_cons];exact nK (hf.set hv p) ht
theorem BU {o:Oper} {r:Vu} (h:eH E base cf rf o f h=some r):∀c,o.op≠ .defer c:=by
 intro c hc;unfold eH at h;simp only[aM,bL,bf,da,hc]at h;cases h
theorem VO (hE:bu P E) (rz:j8 P E base B cf) (BV:nH P E base B rf) (BW:nJ E cf) (BX:kT rf) {F:Fence} (hF:gO F) {n:Nat} (hf:cY μ f a.tmps) (H:bh E base B μ h w) {o:Oper} {r:Vu} (hr:eH E base cf rf o f h=some r)
 {next:Act→World→Prop} {Q:Exit→Act→World→Prop} (hn:∀aU v' w',au aU r.v v'→Step E base B μ h w aU r.h w'→next (a.put o.dst v') w'):o.wpIn F n P a w next Q:=by
 have hg:gB E μ:=H.dc;refine⟨fun _ _=>hF.fn _,?_⟩;rw[Oper.semAt_eq _ _ _ (BU hr)];unfold eH at hr;split at hr
 ·rename_i v hp;simp only[Option.some.injEq]at hr;subst hr;obtain⟨v',q1,q2⟩:=pV hE hg hf hp;rw[q2 w];exact hn μ v' w q1 (.refl H)
 ·split at hr
  ·rename_i q hq;simp only[Option.bind_eq_some_iff,Option.some.injEq]at hr;obtain⟨v,hv,rfl⟩:=hr;obtain⟨v',q1,q2⟩:=uf hE hf H hq hv;rw[q2];exact hn μ v' w q1 (.refl H)
  ·split at hr
   ·rename_i md hd cW;simp only[Option.some.injEq]at hr;subst hr;obtain⟨o',k,hv,S⟩:=nC hE hg hf cW;rw[S.run w];have st:=Step.alloc (o:=md.obj h.size) H (DC.mk' w o') k (fun cs f cA aQ hh=>by cases md<;>simp[Made.obj]at hh;exact⟨hh.2.1.symm,hh.2.2.1.symm⟩) (S.obj _ _ _ _ _ (gA H.fresh));exact hn _ _ _ (S.val _ _ _ (bN _ _ _)) st
   ·split at hr
    ·rename_i v h' he;simp only[Option.some.injEq]at hr;subst hr;obtain⟨aU,nx,v',w',q1,q2,q3,q4⟩:=xe hE hf H he;rw[q1];rcases q2 with rfl |⟨rfl,rfl⟩
     ·exact hn aU v' w' q3 q4
     ·exact hn aU undef w' q3 q4
    ·rename_i g args h' he;simp only[Option.bind_eq_some_iff,Option.some.injEq]at hr;obtain⟨⟨v,h2⟩,hc,rfl⟩:=hr;have xf:=BW _ _ _ _ hc;obtain⟨args',e,q1,q2⟩:=rq hE hf H he xf;subst e;rw[q2];refine⟨hF.ok n,(rz μ h' w g args args' v h2 hc q1 H F (n - 1) hF).mono ?_⟩;rintro e w' ⟨v',aU,rfl,k1,k2⟩;exact hn aU v' w' k1 k2
    ·rename_i l args h' he;simp only[Option.bind_eq_some_iff,Option.some.injEq]at hr;obtain⟨⟨v,h2⟩,hc,rfl⟩:=hr;obtain⟨st,p,f0,ps,iW,body,hl,hlen⟩:=BX _ _ _ _ hc;have hh:h'=h:=by
      obtain⟨dst,op,type,pos,after,guard⟩:=o;cases op<;>simp only[da]at he<;>first|cases he|skip
      all_goals simp only[Option.bind_eq_some_iff,Option.some.injEq,Prod.mk.injEq,ai,reduceCtorEq,false_and,and_false,exists_false]at he
      ·obtain⟨_,_,_,_,he⟩:=he;split at he
       ·split at he<;>simp at he
       ·cases he
      ·obtain⟨_,_,he⟩:=he;split at he
       ·first|(simp at he;done)|(obtain⟨_,_,he⟩:=he;simp at he;done)|(simp only[Option.bind_eq_some_iff]at he;obtain⟨_,_,he⟩:=he;cases he)
       ·try simp only[Option.bind_eq_some_iff]at he
        obtain⟨_,_,he⟩:=he;split at he
        ·simp at he
        ·simp only[Option.some.injEq,Prod.mk.injEq]at he;exact he.2.symm
        ·cases he
       ·cases he
     subst hh;obtain⟨m,args',lo,_,hb,hw,q1,q2,q3⟩:=ry (P:=P) hf H he hl hlen;rw[q2];refine⟨hF.ok n,(BV μ h' w l args v h2 m f0 ps iW body st p lo.fn _ hc hl hb H (nK q3 q1) F (n - 1) hF).mono ?_⟩;rintro e w' ⟨v',aU,rfl,k1,k2⟩;exact hn aU v' w' k1 k2
    ·cases hr
theorem rA {ops:Array Oper} (hf:cY μ f a.tmps) (o:Oper):Region.wanted o (yielded ops a.tmps)=wanted ops.toList o f:=by
 unfold Region.wanted wanted;cases hgd:o.guard with
 |none=>rfl
 |some jw=>
  obtain⟨j,want⟩:=jw;simp only
  unfold yielded;have e:ops.toList[j]? =ops[j]? :=by simp
  rw[e];cases ht:(ops[j]?).bind (·.dst)with
  |none=>simp
  |some t=>
   simp only[Option.bind_some];have hv:=hf.get t;by_cases bH:t<a.tmps.size
   ·have e2:a.tmps.getD t undef=a.tmps[t]:=by simp[bH]
    rw[e2]at hv;rw[Array.getElem?_eq_getElem bH];generalize a.tmps[t]=u at hv;generalize f.get t=c at hv;cases hv with
    |lit hh=>cases u<;>simp
    |BH hh=>rcases hh with rfl |⟨_,_,rfl⟩<;>rfl
    |_=>rfl
   ·have e2:a.tmps.getD t undef=undef:=by simp[bH]
    rw[e2]at hv;have e3:a.tmps[t]? =none:=Array.getElem?_eq_none (Nat.le_of_not_lt bH);rw[e3];generalize f.get t=c at hv;unfold undef at hv;cases hv with
    |lit hh=>simp[aC]at hh
    |BH hh=>rcases hh with hh|⟨_,_,hh⟩<;>cases hh
    |tuple _ _=>rfl
theorem BY (hE:bu P E) (rz:j8 P E base B cf) (BV:nH P E base B rf) (BW:nJ E cf) (BX:kT rf) {F:Fence} (hF:gO F) {n:Nat} {ops:Array Oper} {Q:Exit→Act→World→Prop}:∀(rest:List Oper) (k:Nat) (μ:bn) (f:AF) (h:ab) (a:Act) (w:World) (f':AF) (h':ab),
 (∀j,rest[j]? =ops[k+j]?)→vP E base cf rf ops.toList rest f h=some (f',h')→cY μ f a.tmps→bh E base B μ h w→
 (∀aU a' w',cY aU f' a'.tmps→a'.defers=a.defers→Step E base B μ h w aU h' w'→Q .normal a' w')→wpOpsIn F n P ops Q (List.range' k rest.length) a w
 |[],k,μ,f,h,a,w,f',h',_,ha,hf,H,hQ=>by
  simp only[vP,Option.some.injEq,Prod.mk.injEq]at ha;obtain⟨rfl,rfl⟩:=ha;exact hQ μ a w hf rfl (.refl H)
 |o::rest,k,μ,f,h,a,w,f',h',hk,ha,hf,H,hQ=>by
  have h0:ops[k]? =some o:=by simpa using(hk 0).symm
  have pd:∀j,rest[j]? =ops[k+1+j]? :=fun j=>by have:=hk (j+1);simpa[Nat.add_assoc,Nat.add_comm 1 j]using this
  simp only[List.length_cons,List.range'_succ,wpOpsIn,h0,rA hf];simp only[vP]at ha;split at ha
  ·rename_i hw;rw[if_pos hw];simp only[Option.bind_eq_some_iff]at ha;obtain⟨r,hr,ha⟩:=ha;refine VO hE rz BV BW BX hF hf H hr fun aU v' w' q1 q2=>?_;refine BY hE rz BV BW BX hF rest (k+1) aU (f.put o.dst r.v) r.h _ w' f' h' pd ha ((hf.mono q2.le).put q1 o.dst) q2.rel fun uY a2 w2 p1 p2 p3=>?_;exact hQ uY a2 w2 p1 (by rw[p2];cases o.dst<;>rfl) (q2.trans p3)
  ·rename_i hw;rw[if_neg (by rw[hw];simp)];refine⟨fun _ _=>hF.fn _,?_⟩;refine BY hE rz BV BW BX hF rest (k+1) μ (f.put o.dst undef) h _ w f' h' pd ha (hf.put (.undef μ) o.dst) H fun uY a2 w2 p1 p2 p3=>?_;exact hQ uY a2 w2 p1 (by rw[p2];cases o.dst<;>rfl) p3
end
def pe:Ex→Exit
 | .normal=>.normal
 | .exit id=>.exit id
 | .ret=>.ret
structure ui (W0:Nat) (μ:bn) (w:World) (d:Deferred) (r:Nat):Prop where
 tg:d.target= .collected r
 obj:w.heap[r]? =some (.deferred (some []))
 apart:∀b m,μ b=some m→m.r≠r
 new:W0≤r
inductive bU (W0:Nat) (μ:bn) (w:World):List Deferred→List Nat→Prop
 |nil:bU W0 μ w [] []
 |cons {d:Deferred} {r:Nat} {ds:List Deferred} {rs:List Nat} (h:ui W0 μ w d r) (hn:r∉rs) (t:bU W0 μ w ds rs):bU W0 μ w (d::ds) (r::rs)
section
variable {P:Program} {E:Env} {base B:Nat}
theorem ui.step {W0:Nat} {μ aU:bn} {h h':ab} {w w':World} {d:Deferred} {r:Nat} (k:ui W0 μ w d r) (s:Step E base B μ h w aU h' w'):ui W0 aU w' d r:=by
 have bH:r<w.heap.size:=(Array.getElem?_eq_some_iff.1 k.obj).1;refine⟨k.tg,?_,?_,k.new⟩
 ·rw[s.grow.bl r bH (fun b m hb hr=>absurd hr (k.apart b m hb))];exact k.obj
 ·intro b m hb hr;cases h0:μ b with
  |some m0=>
   have:=s.le b m0 h0;rw[hb]at this;cases this;exact k.apart b m h0 hr
  |none=>
   obtain⟨_,_,h3⟩:=s.new b m h0 hb;rcases h3 with h3|⟨b0,m0,_,h4,h5⟩
   ·omega
   ·exact k.apart b0 m0 h4 (h5.trans hr)
theorem bU.step {W0:Nat} {μ aU:bn} {h h':ab} {w w':World} {ds:List Deferred} {rs:List Nat} (k:bU W0 μ w ds rs) (s:Step E base B μ h w aU h' w'):bU W0 aU w' ds rs:=by
 induction k with
 |nil=>exact .nil
 |cons h hn _ ih=>exact .cons (h.step s) hn ih
theorem bh.apart {μ:bn} {h:ab} {w w':World} (H:bh E base B μ h w) {r:Nat} {o:Obj} (hu:z8 w r o w') (ha:∀b m,μ b=some m→m.r≠r):bh E base B μ h w':=
 ⟨H.gh,H.high,fun b m hb=>by
  obtain⟨p,p',k1,k2,k3⟩:=H.obj b m hb;exact⟨p,p',k1,by rw[hu.get,if_neg (ha b m hb)];exact k2,k3⟩,H.own,H.alias,H.dr,H.dc,by rw[hu.size];exact H.low,H.l5,H.wf,H.root⟩
theorem Step.apart {μ aU:bn} {h h':ab} {w w1 w2:World} (s:Step E base B μ h w aU h' w1) {r:Nat} {o:Obj} (hu:z8 w1 r o w2) (ha:∀b m,aU b=some m→m.r≠r) (hn:w.heap.size≤r):Step E base B μ h w aU h' w2:=
 ⟨s.rel.apart hu ha,⟨hu.tape.trans s.grow.tape,hu.os.trans s.grow.os,hu.output.trans s.grow.output,by rw[hu.size];exact s.grow.size,fun k hk hh=>by rw[hu.get,if_neg om];exact s.grow.bl k hk hh⟩,s.le,s.new,s.Gy,s.fL⟩
theorem bh.alc {μ:bn} {h:ab} {w w':World} (H:bh E base B μ h w) {o:Obj} (ha:DC w o w'):bh E base B μ h w':=
 ⟨H.gh,H.high,fun b m hb=>by
  obtain⟨p,p',k1,k2,k3⟩:=H.obj b m hb;have:=H.lt hb;exact⟨p,p',k1,by rw[ha.get,if_neg om];exact k2,k3⟩,H.own,H.alias,H.dr,H.dc,by rw[ha.size];have:=H.low;omega,H.l5,H.wf,H.root⟩
theorem Step.Zr {μ:bn} {h:ab} {w w':World} (H:bh E base B μ h w) {o:Obj} (ha:DC w o w'):Step E base B μ h w μ h w':=
 ⟨H.alc ha,⟨ha.tape,ha.os,ha.output,by rw[ha.size];omega,fun r hr _=>by rw[ha.get,if_neg om]⟩,μ.le_refl,fun b m h0 h1=>by simp[h0]at h1,fun _ _ _=>rfl,Nat.le_refl _⟩
theorem u9 (hE:bu P E) {μ:bn} {f:AF} {h:ab} {w:World} {tmps:Array Value} {fn:Func} {vs:List Value} (hf:cY μ f tmps) (H:bh E base B μ h w) (hr:df E h f fn.results.toList=some vs):
 ∃v',(results fn tmps).run P w= .ok v' w∧au μ (cX vs) v':=by
 have key:∀(l:List ResultVar) (vs:List Value),df E h f l=some vs→∃nB,ay μ vs nB∧(l.mapM (m:=Sem) fun
  | .tmp t=>pure (tmps.getD t undef)
  | .cell a t=>do loadVar t (←asAddr (tmps.getD a undef))).run P w= .ok nB w:=by
  intro l
  induction l with
  |nil=>intro vs hv;simp only[df,Option.some.injEq]at hv;subst hv;exact⟨[],.nil,by simp⟩
  |cons x l ih=>
   intro vs hv;cases x with
   |tmp t=>
    simp only[df,Option.bind_eq_some_iff,Option.some.injEq]at hv;obtain⟨vs1,h1,rfl⟩:=hv;obtain⟨nB,r1,r2⟩:=ih vs1 h1;exact⟨tmps.getD t undef::nB,.cons (hf.get t) r1,by simp only[List.mapM_cons,Sem.run_bind,Sem.run_pure,Result.andThen_ok,r2]⟩
   |cell a t=>
    simp only[df,Option.bind_eq_some_iff,Option.some.injEq]at hv;obtain⟨p,h1,⟨ag,n⟩,h2,c,h3,v,h4,vs1,h5,rfl⟩:=hv;have ha:=hf.get a;rw[kR h1]at ha;obtain⟨m,hb,ex⟩:=ha.kl;obtain⟨l',r1,r2⟩:=H.z9 hb h3;obtain⟨v',q1,q2⟩:=jx h4 r1;have hl:l'.length=n:=by rw[←r1.length];exact(H.ae hb h3).1
    obtain⟨nB,s1,s2⟩:=ih vs1 h5;refine⟨v'::nB,.cons q2 s1,?_⟩;have lv:=pa (P:=P) hE h2 hl r2 q1;have acG:(asAddr (tmps.getD a undef)).run P w= .ok ⟨m.r,m.s+p.2,none⟩ w:=by rw[ex];rfl
    rw[List.mapM_cons];simp only[Sem.run_bind,acG,Sem.run_pure,Result.andThen_ok,lv];rw[s2];rfl
 obtain⟨nB,r1,r2⟩:=key _ _ hr
 have hm:(fn.results.mapM (m:=Sem) fun
  | .tmp t=>pure (tmps.getD t undef)
  | .cell a t=>do loadVar t (←asAddr (tmps.getD a undef))).run P w= .ok nB.toArray w:=by
  rw[Array.mapM_eq_mapM_toList];simp only[Sem.run_map,r2,Result.andThen_ok]
 have GI:(results fn tmps).run P w= .ok (if h:nB.toArray.size=1 then nB.toArray[0]else .tuple nB.toArray) w:=by
  show Sem.run P (do
   let us ←fn.results.mapM (m:=Sem) fun
    | .tmp t=>pure (tmps.getD t undef)
    | .cell a t=>do loadVar t (←asAddr (tmps.getD a undef))
   pure (if h:us.size=1 then us[0]else .tuple us)) w=_
  rw[Sem.run_bind,hm];rfl
 refine⟨_,GI,?_⟩;cases r1 with
 |nil=>exact .dC (by simpa using ay.nil)
 |cons hv ht=>cases ht with
  |nil=>simpa[cX]using hv
  |cons IS ht=>simp only[cX];exact .dC (by simpa using ay.cons hv (.cons IS ht))
theorem nL {F:Fence} {n:Nat} {fn:Func} {tmps:Array Value} {R:Ending→World→Prop} {jz μ:bn} {h0 h:ab} {w0:World}:∀(ds:List Deferred) (rs:List Nat) (w:World),bU w0.heap.size μ w ds rs→Step E base B jz h0 w0 μ h w→
 (∀w',Step E base B jz h0 w0 μ h w'→∃v,(results fn tmps).run P w'= .ok v w'∧R (.returned v) w')→LeavesInM F n P fn tmps R ds .returning w
 |[],_,w,_,s,hR=>hR w s
 |d::ds,_,w,.cons (r:=r) (rs:=rs) hk hn ht,s,hR=>by
  refine⟨by simp,.inl ⟨r,{w with heap:=w.heap.setIfInBounds r (.deferred none)},hk.tg,?_,?_⟩⟩
  ·unfold Instr.takeDeferred;simp only[Sem.run_bind,run_getObj_map (P:=P) hk.obj (fun _ _ _=>by simp),Result.andThen_ok,cg (P:=P) hk.obj (fun _ _ _=>by simp),Sem.run_pure]
  ·have bH:r<w.heap.size:=(Array.getElem?_eq_some_iff.1 hk.obj).1;have hu:=z8.set w r (.deferred none) bH;refine nL ds rs _ ?_ (s.apart hu hk.apart hk.new) hR;have:∀{ds:List Deferred} {rs:List Nat},bU w0.heap.size μ w ds rs→r∉rs→bU w0.heap.size μ {w with heap:=w.heap.setIfInBounds r (.deferred none)} ds rs:=by
    intro ds rs k
    induction k with
    |nil=>intro _;exact .nil
    |cons h1 h2 _ ih=>
     intro Rj;simp only[List.mem_cons,not_or]at Rj;exact .cons ⟨h1.tg,by rw[hu.get,if_neg (fun e=>Rj.1 e.symm)];exact h1.obj,h1.apart,h1.new⟩ h2 (ih Rj.2)
   exact this ht hn
def BZ (P:Program) (E:Env) (base B:Nat):Prop:=
 ∀(cf:fJ) (rf:eS),j8 P E base B cf→nH P E base B rf→nJ E cf→kT rf→∀(ops:Array Oper) (f:AF) (h:ab) (f':AF) (h':ab) (uj:List dZ),
  mG ops.toList=true→j5 f.n ops.toList=true→lB E base cf rf ops.toList ops.toList f h=some (f',h',uj)→lD (db ops.toList []) 0 uj=true→
  ∀(μ:bn) (a:Act) (w:World),cY μ f a.tmps→bh E base B μ h w→∀(F:Fence) (n id:Nat) (Q:Exit→Act→World→Prop),gO F→
  (∀aU a' w',cY aU f' a'.tmps→a'.defers=a.defers→Step E base B μ h w aU h' w'→Q .normal a' w')→(Code.region id ops true).wpIn F n P Q a w
def GJ (P:Program) (E:Env) (base B k:Nat):Prop:=
 ∀(c:Code) (f:AF) (h:ab) (ex:Ex) (f':AF) (h':ab),a8 E base k c f h=some (ex,f',h')→
  ∀(μ:bn) (a:Act) (w:World) (W0:Nat) (rs:List Nat),cY μ f a.tmps→bh E base B μ h w→bU W0 μ w a.defers rs→W0≤w.heap.size→
  ∀(F:Fence) (n:Nat) (Q:Exit→Act→World→Prop),gO F→(F.round=none∨aY c=true)→
  (∀aU a' w' DP,cY aU f' a'.tmps→bU W0 aU w' a'.defers DP→Step E base B μ h w aU h' w'→Q (pe ex) a' w')→c.wpIn F n P Q a w
theorem xg {μ:bn}:∀{args args':List Value} {i:Nat} {f:AF} {tmps:Array Value},ay μ args args'→cY μ f tmps→cY μ (AF.oS args i f) ((args'.zipIdx i).foldl (fun t p=>t.setIfInBounds p.2 p.1) tmps)
 |_,_,i,f,tmps,.nil,hf=>by simpa[AF.oS]using hf
 |_,_,i,f,tmps,.cons hv ht,hf=>by
  simp only[AF.oS,List.zipIdx_cons,List.foldl_cons];exact xg ht (hf.set hv i)
theorem Ae {μ:bn} {args:List Value} {args':Array Value} {n:Nat} (hr:ay μ args args'.toList) (hn:args.length≤n):cY μ (AF.enter args n) (args'++Array.replicate (n - args'.size) undef):=by
 have hl:args.length=args'.size:=by simpa using hr.length
 have h0:cY μ ⟨.nil,n⟩ (Array.replicate n undef):=by
  refine⟨by simp,fun t=>?_⟩;have:(AF.get ⟨.nil,n⟩ t)=undef:=rfl;rw[this];by_cases h:t<n<;>simp[h]<;>exact .undef μ
 have:=xg (i:=0) hr h0;have e:((args'.toList.zipIdx 0).foldl (fun t p=>t.setIfInBounds p.2 p.1) (Array.replicate n undef))=args'++Array.replicate (n - args'.size) undef:=by
  have zf:=BN args'.toList 0 0 (Array.replicate n undef) (by simp;omega);simp only[Nat.zero_add]at zf;apply Array.ext
  ·rw[zf.1];simp;omega
  ·intro i h1 h2;have:=zf.2 i;rw[Array.getElem?_eq_getElem h1]at this;rw[←Option.some.injEq,this];by_cases hi:i<args'.size
   ·rw[if_pos (by simp;exact hi)];simp[hi]
   ·rw[if_neg (by simp;omega)];have IL:i<n:=by
     rw[zf.1]at h1;simpa using h1
    simp[hi,IL,Array.getElem_append]
 rw[←e];exact this
theorem B0 (run:zB):nJ E (gy E base run):=by
 intro g args h r hr;unfold gy at hr;simp only[Option.bind_eq_some_iff]at hr;obtain⟨fn,h1,_⟩:=hr;simp[h1]
theorem DQ (run:zB):kT (g6 base run):=by
 intro l args h r hr;unfold g6 at hr;simp only[ai]at hr;obtain⟨_,hr⟩:=hr;split at hr
 ·rename_i p f ps iW body hg;simp only[ai,Bool.and_eq_true,beq_iff]at hr;exact⟨_,_,_,_,_,_,hg,hr.1.1.1⟩
 ·cases hr
def iJ (P:Program) (E:Env) (base B:Nat):Prop:=j8 P E base B (E.tS base)
theorem NB (hE:bu P E) (hO:iJ P E base B) {k:Nat} (hk:GJ P E base B k):j8 P E base B (gy E base (a8 E base k)):=by
 intro μ h w g args args' v h' hc hr H F n hF;unfold gy at hc;simp only[Option.bind_eq_some_iff]at hc;obtain⟨fn,h1,hc⟩:=hc;split at hc
 ·rename_i r ho;simp only[Option.some.injEq]at hc;subst hc;exact hO μ h w g args args' v h' ho hr H F n hF
 ·simp only[Option.bind_eq_some_iff,ai,aG]at hc;obtain⟨c,h2,hn,hc⟩:=hc;obtain⟨f1,f2,f3⟩:=hE.func _ _ h1
  have body:∀ex f1' zq,a8 E base k c (AF.enter args fn.ntmps) h=some (ex,f1',zq)→(pe ex= .normal∨pe ex= .ret)→(df E zq f1' fn.results.toList).bind (fun vs=>some (cX vs,zq))=some (v,h')→
   CallsIn F.plain n P g args' w (lI E base B μ h w v h'):=by
   intro ex fe he gD hex GI;simp only[Option.bind_eq_some_iff,Option.some.injEq,Prod.mk.injEq]at GI;obtain⟨vs,h3,rfl,rfl⟩:=GI;refine callsIn_of_wp_marks f1 h2 (hF.fn _) ?_ rfl;refine hk c _ h ex fe he gD μ _ w w.heap.size [] (Ae hr hn) H .nil (Nat.le_refl _) F.plain n _ hF.plain (.inl rfl) ?_;intro aU a' w' DP q1 q2 q3
   have lv:LeavesInM F.plain n P fn a'.tmps (lI E base B μ h w (cX vs) he) a'.defers .returning w':=
    nL a'.defers DP w' q2 q3 fun w2 s2=>by
     obtain⟨v',p1,p2⟩:=u9 (P:=P) hE q1 s2.rel h3;exact⟨v',p1,v',aU,rfl,p2,s2⟩
   rcases hex with e|e<;>rw[e]<;>exact lv
  have fin:CallsIn F.plain n P g args' w (lI E base B μ h w v h'):=by
   split at hc
   ·rename_i fe he gD;exact body _ _ _ gD (.inl rfl) hc
   ·rename_i fe he gD;exact body _ _ _ gD (.inr rfl) hc
   ·cases hc
  exact fin
end
section
variable {P:Program} {E:Env} {base B:Nat}
theorem run_getLoop {w:World} {r:Nat} {lo:Loop} (h:w.heap[r]? =some (.loop lo)):(Instr.getLoop r).run P w= .ok lo w:=by
 unfold Instr.getLoop;simp only[Sem.run_bind,run_getObj_map (P:=P) h (fun _ _ _=>by simp),Result.andThen_ok,Sem.run_pure]
theorem mL {μ:bn} {h:ab} {w:World} (H:bh E base B μ h w) {l:Nat} {m:MT} (hb:μ l=some m) (bt:base≤l) {st:LoopState} {p:Option Code} {f0:AF} {ps:List Tmp} {iW body:Code} (hg:h.get l=some (.loop st p f0 ps iW body)) (IT:LoopState) (p':Option Code):
 ∃lo:Loop,w.heap[m.r]? =some (.loop lo)∧lo.state=st∧lo.pending=p∧Step E base B μ h w μ (h.put l (.loop IT p' f0 ps iW body)) {w with heap:=w.heap.setIfInBounds m.r (.loop {lo with state:=IT,pending:=p'})}:=by
 obtain⟨o1,o2,k1,k2,k3⟩:=H.obj l m hb;rw[hg]at k1;cases k1;cases k3 with
 |loop hf=>
  refine⟨_,k2,rfl,rfl,?_⟩;exact Step.put H hb bt hg rfl rfl (z8.set w m.r _ (H.lt hb)) (.loop hf)
theorem Rk {k:Nat} (hk:GJ P E base B k):nH P E base B (g6 base (a8 E base k)):=by
 intro μ h w l args v h' m f0 ps iW body st p fn tmps hr hl hb H hf F n hF;unfold g6 at hr;simp only[ai,aG]at hr;obtain⟨bt,hr⟩:=hr;rw[hl]at hr;cases st with
 |ready=>
  simp only[ai,Bool.and_eq_true,beq_iff]at hr;obtain⟨⟨⟨hlen,Gl⟩,oO⟩,hr⟩:=hr;split at hr
  ·rename_i f1 h1 acH;split at hr
   ·rename_i p1 f01 fO qw kb zF;simp only[Option.bind_eq_some_iff]at hr;obtain⟨⟨ex,f2,h2⟩,Zs,hr⟩:=hr;simp only at hr;split at hr
    ·rename_i st2 p2 f02 oC VP NC Gk;refine roundIn_of_wpIn (hF.fn _) ?_;refine hk iW _ h .normal f1 h1 acH μ _ w w.heap.size [] hf H .nil (Nat.le_refl _) (F.inRound m.r) n _ (hF.inRound _) (.inr Gl) ?_;intro fQ a1 w1 sn q1 q2 s1;have oB:=s1.le _ _ hb;obtain⟨Zt,e1,e2,e3,s2⟩:=mL s1.rel oB bt zF .busy p1;have VQ:Step E base B fQ h1 w1 fQ (h1.put l (.loop .busy p1 f01 fO qw kb)) {w1 with heap:=w1.heap.setIfInBounds m.r (.loop {Zt with state:=.busy})}:=by
      rw[←e3]at s2 ⊢;exact s2
     refine⟨{w1 with heap:=w1.heap.setIfInBounds m.r (.loop {Zt with state:=.busy})},?_,?_⟩
     ·unfold Instr.beginRound;simp only[Sem.run_bind,run_getLoop (P:=P) e1,Result.andThen_ok,cg (P:=P) e1 (fun _ _ _=>by simp),e2,Sem.run_pure]
     refine hk body f1 _ ex f2 h2 Zs fQ a1 _ w.heap.size sn q1 VQ.rel (q2.step VQ) (by rw[Array.size_setIfInBounds];exact s1.grow.size) (F.inRound m.r) n _ (hF.inRound _) (.inr oO) ?_;intro vT a3 w3 rs3 q3 q4 s3;have nM:=(s1.trans VQ);have MS:=s3.le _ _ oB;have key:∀(IT:LoopState) (jump:Option Code),(jump.isNone=true→IT= .ready)→(jump.isNone=false→IT= .done)→∃w4,(Instr.endRound m.r jump).run P w3= .ok (.bool jump.isNone) w4∧Step E base B vT h2 w3 vT (h2.put l (.loop IT jump f02 oC VP NC)) w4:=by
      intro IT jump hj1 Um;obtain⟨Rl,d1,d2,d3,s4⟩:=mL s3.rel MS bt Gk IT jump;refine⟨_,?_,s4⟩;unfold Instr.endRound;simp only[Sem.run_bind,run_getLoop (P:=P) d1,Result.andThen_ok,cg (P:=P) d1 (fun _ _ _=>by simp),Sem.run_pure];cases hj:jump.isNone with
      |true=>rw[hj1 hj];simp
      |false=>rw[Um hj];simp
     cases ex with
     |normal=>
      simp only[Option.some.injEq,Prod.mk.injEq]at hr;obtain⟨rfl,rfl⟩:=hr;obtain⟨w4,k1,k2⟩:=key .ready none (fun _=>rfl) (fun h=>by simp at h);exact⟨_,w4,k1,_,vT,rfl,.bool _ _,(nM.trans s3).trans k2⟩
     |ret=>
      simp only[Option.some.injEq,Prod.mk.injEq]at hr;obtain⟨rfl,rfl⟩:=hr;obtain⟨w4,k1,k2⟩:=key .done (some .ret) (fun h=>by simp at h) (fun _=>rfl);exact⟨_,w4,k1,_,vT,rfl,.bool _ _,(nM.trans s3).trans k2⟩
     |exit id=>
      simp only[Option.some.injEq,Prod.mk.injEq]at hr;obtain⟨rfl,rfl⟩:=hr;obtain⟨w4,k1,k2⟩:=key .done (some (.exit id)) (fun h=>by simp at h) (fun _=>rfl);exact⟨_,w4,k1,_,vT,rfl,.bool _ _,(nM.trans s3).trans k2⟩
    ·cases hr
   ·cases hr
  ·cases hr
 |busy=>cases hr
 |done=>cases hr
 |exhausted=>cases hr
theorem codeOk (hE:bu P E) (hO:iJ P E base B) (hD:BZ P E base B):∀k,GJ P E base B k∧
 (∀(b:Code) (f:AF) (h:ab) (ex:Ex) (f':AF) (h':ab),a8 E base k (.loop b) f h=some (ex,f',h')→
  ∀(μ:bn) (a:Act) (w:World) (W0:Nat) (rs:List Nat),cY μ f a.tmps→bh E base B μ h w→bU W0 μ w a.defers rs→W0≤w.heap.size→
  ∀(F:Fence) (n:Nat) (Q:Exit→Act→World→Prop),gO F→(F.round=none∨aY b=true)→
  (∀aU a' w' DP,cY aU f' a'.tmps→bU W0 aU w' a'.defers DP→Step E base B μ h w aU h' w'→Q (pe ex) a' w')→Code.roundsIn F n P b Q k a w):=by
 intro k
 induction k with
 |zero=>exact⟨fun c f h ex f' h' hr=>by simp[a8]at hr,fun b f h ex f' h' hr=>by simp[a8]at hr⟩
 |succ k ih=>
  obtain⟨hk,ND⟩:=ih;have so:=NB hE hO hk;have B3:=Rk hk
  have DR:∀(b:Code) (f:AF) (h:ab) (ex:Ex) (f':AF) (h':ab),a8 E base (k+1) (.loop b) f h=some (ex,f',h')→
   ∀(μ:bn) (a:Act) (w:World) (W0:Nat) (rs:List Nat),cY μ f a.tmps→bh E base B μ h w→bU W0 μ w a.defers rs→W0≤w.heap.size→
   ∀(F:Fence) (n:Nat) (Q:Exit→Act→World→Prop),gO F→(F.round=none∨aY b=true)→
   (∀aU a' w' DP,cY aU f' a'.tmps→bU W0 aU w' a'.defers DP→Step E base B μ h w aU h' w'→Q (pe ex) a' w')→Code.roundsIn F n P b Q (k+1) a w:=by
   intro b f h ex f' h' hr μ a w W0 rs hf H hm hW F n Q hF xh hQ;simp only[a8]at hr;rw[roundsIn_succ];split at hr
   ·rename_i f1 h1 hb;refine hk b f h .normal f1 h1 hb μ a w W0 rs hf H hm hW F n _ hF xh fun fQ a1 w1 sn q1 q2 s1=>?_;exact ND b f1 h1 ex f' h' hr fQ a1 w1 W0 sn q1 s1.rel q2 (Nat.le_trans hW s1.grow.size) F n Q hF xh fun uY a2 w2 VS p1 p2 s2=>hQ uY a2 w2 VS p1 p2 (s1.trans s2)
   ·rename_i Uo;refine hk b f h ex f' h' hr μ a w W0 rs hf H hm hW F n _ hF xh fun fQ a1 w1 sn q1 q2 s1=>?_;have:=hQ fQ a1 w1 sn q1 q2 s1;cases ex with
    |normal=>exact(Uo _ _ hr).elim
    |exit id=>exact this
    |ret=>exact this
  refine⟨?_,DR⟩;intro c f h ex f' h' hr μ a w W0 rs hf H hm hW F n Q hF xh hQ;cases c with
  |skip=>
   simp only[a8,Option.some.injEq,Prod.mk.injEq]at hr;obtain⟨rfl,rfl,rfl⟩:=hr;exact wpIn_skip (hQ μ a w rs hf hm (.refl H))
  |exit id=>
   simp only[a8,Option.some.injEq,Prod.mk.injEq]at hr;obtain⟨rfl,rfl,rfl⟩:=hr;exact wpIn_exit (hQ μ a w rs hf hm (.refl H))
  |ret=>
   simp only[a8,Option.some.injEq,Prod.mk.injEq]at hr;obtain⟨rfl,rfl,rfl⟩:=hr;exact wpIn_ret (hQ μ a w rs hf hm (.refl H))
  |seq x y=>
   simp only[a8]at hr;have hx:F.round=none∨aY x=true:=xh.imp id fun h=>by simp[aY]at h;exact h.1
   have hy:F.round=none∨aY y=true:=xh.imp id fun h=>by simp[aY]at h;exact h.2
   refine wpIn_seq ?_;split at hr
   ·rename_i f1 h1 hb;refine hk x f h .normal f1 h1 hb μ a w W0 rs hf H hm hW F n _ hF hx fun fQ a1 w1 sn q1 q2 s1=>?_;exact hk y f1 h1 ex f' h' hr fQ a1 w1 W0 sn q1 s1.rel q2 (Nat.le_trans hW s1.grow.size) F n Q hF hy fun uY a2 w2 VS p1 p2 s2=>hQ uY a2 w2 VS p1 p2 (s1.trans s2)
   ·rename_i Uo;refine hk x f h ex f' h' hr μ a w W0 rs hf H hm hW F n _ hF hx fun fQ a1 w1 sn q1 q2 s1=>?_;have:=hQ fQ a1 w1 sn q1 q2 s1;cases ex with
    |normal=>exact(Uo _ _ hr).elim
    |exit id=>exact this
    |ret=>exact this
  |cond cx x y=>
   simp only[a8,Option.bind_eq_some_iff]at hr;obtain⟨v,h1,b,h2,h3⟩:=hr;have e:=w6 h2;subst e;have hc:=(a9 H.dc hf h1).ax rfl;have hx:F.round=none∨aY x=true:=xh.imp id fun h=>by simp[aY]at h;exact h.1
   have hy:F.round=none∨aY y=true:=xh.imp id fun h=>by simp[aY]at h;exact h.2
   cases b with
   |true=>exact wpIn_cond_true hc (hk x f h ex f' h' h3 μ a w W0 rs hf H hm hW F n Q hF hx hQ)
   |false=>exact wpIn_cond_false hc (hk y f h ex f' h' h3 μ a w W0 rs hf H hm hW F n Q hF hy hQ)
  |block id b=>
   simp only[a8]at hr;have bX:F.round=none∨aY b=true:=xh.imp (fun h=>h) fun h=>by simpa[aY]using h
   refine wpIn_block ?_;split at hr
   ·rename_i nk f1 h1 hb;refine hk b f h (.exit nk) f1 h1 hb μ a w W0 rs hf H hm hW F n _ hF bX fun fQ a1 w1 sn q1 q2 s1=>?_;rw[bY]at hr;show(if nk=id then Q .normal a1 w1 else Q (.exit nk) a1 w1);by_cases e:nk=id
    ·rw[if_pos (beq_iff.2 e)]at hr;simp only[Option.some.injEq,Prod.mk.injEq]at hr;obtain⟨rfl,rfl,rfl⟩:=hr;rw[if_pos e];exact hQ fQ a1 w1 sn q1 q2 s1
    ·rw[if_neg (fun hh=>e (beq_iff.1 hh))]at hr;simp only[Option.some.injEq,Prod.mk.injEq]at hr;obtain⟨rfl,rfl,rfl⟩:=hr;rw[if_neg e];exact hQ fQ a1 w1 sn q1 q2 s1
   ·rename_i Uo;refine hk b f h ex f' h' hr μ a w W0 rs hf H hm hW F n _ hF bX fun fQ a1 w1 sn q1 q2 s1=>?_;have:=hQ fQ a1 w1 sn q1 q2 s1;cases ex with
    |normal=>exact this
    |exit nk=>exact(Uo _ _ _ hr).elim
    |ret=>exact this
  |loop b=>
   exact wpIn_loop_rounds (k+1) (DR b f h ex f' h' hr μ a w W0 rs hf H hm hW F n Q hF (xh.imp id fun h=>by simpa[aY]using h) hQ)
  |region id ops draw=>
   simp only[a8,lE]at hr;cases draw with
   |false=>
    simp only[Option.bind_eq_some_iff,Option.some.injEq,Prod.mk.injEq]at hr;obtain⟨⟨f1,h1⟩,hb,rfl,rfl,rfl⟩:=hr;refine wpIn_region ?_;have:=BY hE so B3 (B0 _) (DQ _) hF (n:=n) (ops:=ops) (Q:=Q) ops.toList 0 μ f h a w f1 h1 (fun j=>by simp) hb hf H fun fQ a1 w1 q1 q2 s1=>hQ fQ a1 w1 rs q1 (by rw[q2];exact hm.step s1) s1;rw[List.range_eq_range',←Array.length_toList];exact this
   |true=>
    simp only[ai,Bool.and_eq_true,Option.bind_eq_some_iff,Option.some.injEq,Prod.mk.injEq]at hr;obtain⟨⟨hs,hd⟩,⟨f1,h1,uj⟩,hb,hp,rfl,rfl,rfl⟩:=hr;exact hD _ _ so B3 (B0 _) (DQ _) ops f h f1 h1 uj hs hd hb hp μ a w hf H F n id Q hF fun fQ a1 w1 q1 q2 s1=>hQ fQ a1 w1 rs q1 (by rw[q2];exact hm.step s1) s1
  |rangeFunc g ps iW body=>
   have tU:F.round=none:=xh.resolve_right (by simp[aY]);simp only[a8,Option.bind_eq_some_iff,ai,aG]at hr;obtain⟨gv,h1,bt,hr⟩:=hr;split at hr
   ·rename_i gid first captured
    simp only[Option.bind_eq_some_iff]at hr;obtain⟨⟨rv,h2⟩,hc,hr⟩:=hr;simp only at hr;have zt:=a9 H.dc hf h1;generalize hq:a.eval g=q at zt;cases zt with
    |lit hh=>simp[aC]at hh
    |func t1 t2 t3 t4=>
     rename_i ru jg;refine wpIn_rangeFunc fun fn _=>?_
     let wA:World:={w with heap:=w.heap.push (.deferred (some []))}
     let lo:Loop:={state:=.ready,pending:=none,fn:=fn,tmps:=a.tmps,params:=ps,assign:=iW,body:=body,defers:=w.heap.size}
     let wB:World:={wA with heap:=wA.heap.push (.loop lo)}
     have sA:Step E base B μ h w μ h wA:=Step.Zr H (DC.mk' w _);have acL:wA.heap.size=w.heap.size+1:=by simp[wA]
     have sB:=Step.alloc (o:=.loop .ready none f ps.toList iW body) sA.rel (DC.mk' wA (.loop lo)) 0 (fun _ _ _ _ hh=>by cases hh) (by
      have:=iX.loop (μ:=kN μ h.size ⟨wA.heap.size,0,0⟩) (h:=h.push (.loop .ready none f ps.toList iW body)) (base:=base) (b:=h.size) (m:=⟨wA.heap.size,0,0⟩) (st:=.ready) (p:=none) (ps:=ps.toList) (iW:=iW) (body:=body) (fn:=fn) (d:=w.heap.size) (hf.mono (gA H.fresh));simpa using this)
     let mk:Deferred:={target:=.collected w.heap.size,args:= #[]}
     have Yu:ui W0 μ wA mk w.heap.size:=⟨rfl,by simp[wA],fun b m hb he=>by have:=H.lt hb;omega,hW⟩;have Rj:w.heap.size∉rs:=by
      have:∀{ds:List Deferred} {rs:List Nat},bU W0 μ w ds rs→∀r∈rs,r<w.heap.size:=by
       intro ds rs k
       induction k with
       |nil=>intro r hr;simp at hr
       |cons h1 _ _ ih=>intro r hr;rcases List.mem_cons.1 hr with rfl |hr
                        ·exact(Array.getElem?_eq_some_iff.1 h1.obj).1
                        ·exact ih r hr
      intro l7;have:=this hm _ l7;omega
     have hmarks:bU W0 μ wA (mk::a.defers) (w.heap.size::rs):=.cons Yu Rj (hm.step sA)
     let args':Array Value:=ru++ #[.func (.yield wA.heap.size) #[] #[]]++jg
     have xf:=B0 (E:=E) _ _ _ _ _ hc;obtain⟨Zu,VT⟩:=Option.isSome_iff_exists.1 xf;obtain⟨g1,g2,g3⟩:=hE.func _ _ VT;have hbn:Zu.body.isNone=false:=by cases hx:Zu.body<;>simp_all
     have ke:ay (kN μ h.size ⟨wA.heap.size,0,0⟩) (first.toList++[.func (.yield h.size) #[] #[]]++captured.toList) args'.toList:=by
      have hle:μ.le (kN μ h.size ⟨wA.heap.size,0,0⟩):=gA H.fresh;have v1:=(ay.ny t1 t2).mono hle;have v3:=(ay.ny t3 t4).mono hle;have v2:=ay.cons (au.yield (bN μ h.size ⟨wA.heap.size,0,0⟩)) .nil;simpa[args']using(v1.append v2).append v3
     refine⟨wA.heap.size,[mk],wB,{target:=.fn (.func gid) jg,args:=ru++ #[.func (.yield wA.heap.size) #[] #[]]},wB,gid,args',wB,?_,?_,fun _ _=>hF.fn _,?_,hF.ok n,?_⟩
     ·rw[tU];unfold Instr.enterLoop;simp only[Sem.run_bind,run_newObj,Result.andThen_ok,Sem.run_pure];rfl
     ·have hcv:∀v:Value,a.eval (.const v)=v:=fun _=>rfl;simp[resolve,hq,Deferred.ofValue,Sem.run_pure,hcv]
     ·simp only[invoke,callFunc,Sem.run_bind,run_program,Result.andThen_ok,g1,g3,hbn,Bool.false_eq_true,if_false,Sem.run_pure];rfl
     ·refine(so _ _ wB gid _ args' rv h2 hc ke sB.rel F (n - 1) hF).mono ?_;rintro e w3 ⟨v',vT,rfl,k1,s3⟩;have MS:vT h.size=some ⟨wA.heap.size,0,0⟩:=s3.le _ _ (bN _ _ _);split at hr
      ·rename_i st p f0 MN vQ ou hl;simp only[ai]at hr;obtain⟨bW,hr⟩:=hr;obtain⟨Rl,d1,d2,d3,s4⟩:=mL s3.rel MS bt hl .exhausted p;have VU:Step E base B vT h2 w3 vT (h2.put h.size (.loop .exhausted p f0 MN vQ ou)) {w3 with heap:=w3.heap.setIfInBounds wA.heap.size (.loop {Rl with state:=.exhausted})}:=by
        rw[←d3]at s4 ⊢;exact s4
       have nM:=((sA.trans sB).trans s3).trans VU;have Zv:bU W0 vT {w3 with heap:=w3.heap.setIfInBounds wA.heap.size (.loop {Rl with state:=.exhausted})} (mk::a.defers) (w.heap.size::rs):=((hmarks.step sB).step s3).step VU;refine⟨p,{w3 with heap:=w3.heap.setIfInBounds wA.heap.size (.loop {Rl with state:=.exhausted})},?_,?_⟩
       ·unfold Instr.endLoop;simp only[Sem.run_bind,run_getLoop (P:=P) d1,Result.andThen_ok];rw[if_neg (by rw[d2];intro hh;rw[bne_iff_ne]at bW;exact bW (eq_of_beq hh))];simp only[Sem.run_bind,cg (P:=P) d1 (fun _ _ _=>by simp),Result.andThen_ok,Sem.run_pure,d3]
       ·cases p with
        |none=>
         simp only[Option.some.injEq,Prod.mk.injEq]at hr;obtain⟨rfl,rfl,rfl⟩:=hr;exact hQ vT _ _ _ (hf.mono nM.le) Zv nM
        |some cj=>
         simp only at hr;exact hk cj f _ ex f' h' hr vT {a with defers:=mk::a.defers} _ W0 _ (hf.mono nM.le) VU.rel Zv (Nat.le_trans hW nM.grow.size) F n Q hF (.inl tU) fun μ5 a5 w5 rs5 p1 p2 s5=>hQ μ5 a5 w5 rs5 p1 p2 (nM.trans s5)
      ·cases hr
   ·cases hr
  |scope b=>simp only[a8]at hr;cases hr
  |label l=>simp only[a8]at hr;cases hr
  |goto l=>simp only[a8]at hr;cases hr
  |refuse s=>simp only[a8]at hr;cases hr
end
def xi (base:Nat) (μ:bn) (h:ab) (w:World) (b:Nat) (m:MT):Prop:=∃o o',h.get b=some o∧w.heap[m.r]? =some o'∧iX μ h base b m o o'
theorem xi.read {base:Nat} {μ:bn} {h:ab} {w:World} {b:Nat} {m:MT} (H:xi base μ h w b m) {cs:List Value} (hr:h.rd b=some cs):
 ∃c e fr,w.heap[m.r]? =some (.cells c e fr)∧c.size=m.n∧m.s+cs.length≤m.n∧(base≤b→mH fr m.n)∧∀(i:Nat) v,cs[i]? =some v→∃v',c[m.s+i]? =some v'∧au μ v v':=by
 obtain⟨o,o',ho,Ke,oZ⟩:=H;obtain⟨r,h1,h2,h3⟩:=rd_some hr;obtain⟨f,cA,aQ,hg⟩:=dJ h3;rw[hg]at ho;cases ho;cases oZ with
 |cells hn hl hf hc=>exact⟨_,_,_,Ke,hn,hl,hf,hc (by simp[hr])⟩
theorem xi.ae {base:Nat} {μ:bn} {h:ab} {w:World} {b o n:Nat} {m:MT} (H:xi base μ h w b m) {l:List Value} (hr:ae h b o n=some l):
 l.length=n∧∀(i:Nat) v,l[i]? =some v→∃v',w.cell? ⟨m.r,m.s+o+i,none⟩=some v'∧au μ v v':=by
 unfold M.ae at hr;simp only[Option.bind_eq_some_iff,aW]at hr;obtain⟨cs,h1,h2,rfl⟩:=hr;refine⟨by simp at h2 ⊢;omega,fun i v hv=>?_⟩;obtain⟨c,e,fr,hw,hn,hl,hf,hc⟩:=H.read h1;have hi:i<n:=by
  have:=(List.getElem?_eq_some_iff.1 hv).1;simp at this;omega
 rw[List.getElem?_take,if_pos hi,List.getElem?_drop]at hv;obtain⟨v',k1,k2⟩:=hc _ v hv;refine⟨v',?_,k2⟩;simp only[World.cell?,hw];simpa[Nat.add_assoc]using k1
section
variable {P:Program} {E:Env} {μ:bn} {f:AF} {a:Act} {base B:Nat} {h:ab} {w:World}
theorem xi.z9 {b o n:Nat} {m:MT} (H:xi base μ h w b m) {l:List Value} (hr:M.ae h b o n=some l):
 ∃l',ay μ l l'∧∀(i:Nat) v,l'[i]? =some v→w.cell? ⟨m.r,m.s+o+i,none⟩=some v:=by
 obtain⟨h1,h2⟩:=H.ae hr;have key:∀(l:List Value) (k:Nat),(∀(i:Nat) v,l[i]? =some v→∃v',w.cell? ⟨m.r,m.s+o+k+i,none⟩=some v'∧au μ v v')→∃l',ay μ l l'∧∀(i:Nat) v,l'[i]? =some v→w.cell? ⟨m.r,m.s+o+k+i,none⟩=some v:=by
  intro l
  induction l with
  |nil=>intro k _;exact⟨[],.nil,fun i v h=>by simp at h⟩
  |cons v l ih=>
   intro k hl;obtain⟨v',q1,q2⟩:=hl 0 v rfl;obtain⟨l',r1,r2⟩:=ih (k+1) fun i u hu=>by
    obtain⟨u',k1,k2⟩:=hl (i+1) u (by simpa using hu);exact⟨u',by rw[←k1];congr 2;omega,k2⟩
   refine⟨v'::l',.cons q2 r1,fun i u hu=>?_⟩;cases i with
   |zero=>simp at hu;subst hu;simpa using q1
   |succ i=>
    simp at hu;rw[←r2 i u hu];congr 2;omega
 obtain⟨l',r1,r2⟩:=key l 0 (by simpa using h2);exact⟨l',r1,by simpa using r2⟩
theorem Kk (hE:bu P E) (hf:cY μ f a.tmps) (hg:gB E μ) {o:Oper} {q:RQ} {v:Value} (hq:bL E f o=some q) (Hq:∀m,μ q.dw=some m→∃h,q.run h=some v∧xi base μ h w q.dw m):
 ∃v',au μ v v'∧(execOp a.eval o).run P w= .ok (.value v') w:=by
 obtain⟨dst,op,type,pos,after,guard⟩:=o;cases op
 case load t x=>
  simp only[bL,Option.bind_eq_some_iff,Option.some.injEq]at hq;obtain⟨u,h1,p,h2,⟨agg,n⟩,h3,rfl⟩:=hq;have e:=kR h2;subst e;obtain⟨m,hb,ex⟩:=(a9 hg hf h1).kl;obtain⟨h,hv,H⟩:=Hq m hb;simp only[RQ.run,Option.bind_eq_some_iff]at hv;obtain⟨l,h4,h5⟩:=hv;obtain⟨l',r1,r2⟩:=H.z9 h4;obtain⟨v',q1,q2⟩:=jx h5 r1;refine⟨v',q2,?_⟩;have hl:l'.length=n:=by rw[←r1.length];exact(H.ae h4).1
  simp only[execOp,Instr.loadAt,Sem.run_bind,ex,Instr.sureAddr,Sem.run_pure,Result.andThen_ok];rw[pa hE h3 hl r2 q1];rfl
 case lookup t x ix ok=>
  simp only[bL,Option.bind_eq_some_iff]at hq;obtain⟨d,hd,mv,h1,k,h2,h3⟩:=hq;split at h3
  ·rename_i kt elem r;simp only[Option.bind_eq_some_iff,ai,Bool.and_eq_true,Option.some.injEq]at h3;obtain⟨kd,iH,z,hz,⟨⟨s1,s2⟩,s3⟩,rfl⟩:=h3;obtain⟨m,hb,ex⟩:=(a9 hg hf h1).lF;have ek:=(a9 hg hf h2).ax s2;obtain⟨h,hv,H⟩:=Hq m hb;simp only[RQ.run,Option.bind_eq_some_iff]at hv;obtain⟨⟨es,clock⟩,h4,h5⟩:=hv;obtain⟨o1,o2,k1,k2,k3⟩:=H;have hm:h.get r=some (.map es clock):=by
    unfold eR at h4;split at h4<;>simp at h4;obtain⟨rfl,rfl⟩:=h4;assumption
   simp only[RQ.dw]at k1 k3;rw[hm]at k1;cases k1;cases k3 with
   |map hs=>
    rename_i bS;have pW:=run_getObj_map (P:=P) k2 (fun _ _ _=>by simp);simp only[j4,Option.bind_eq_some_iff,Option.some.injEq]at h5;obtain⟨fr,h6,h7⟩:=h5;obtain⟨MR,q1,q2,q3⟩:=jI hs h6;have rk:=au.cb μ s3;have Kh:(Instr.findKey kt k bS.toList).run P w= .ok MR w:=by
     simp only[Instr.findKey,Sem.run_bind,aH hE iH w,Result.andThen_ok,q1,Sem.run_pure]
    have kr:=kS (P:=P) hE iH s1 bS.isEmpty 9999 k w;have fin:∀(u u':Value) (b:Bool),au μ u u'→au μ (bif ok then .tuple #[u,.bool b]else u) (if ok=true then .tuple #[u',.bool b]else u'):=by
     intro u u' b hu;cases ok with
     |true=>simp only[cond_true,if_true];exact .dC (by simpa using ay.cons hu (.cons (.bool μ b) .nil))
     |false=>simpa using hu
    cases fr with
    |none=>
     have e:=q2 rfl;subst e;simp only at h7;subst h7;refine⟨_,fin z z false rk,?_⟩;simp only[execOp,Instr.lookup,Sem.run_bind,aH hE hd w,Result.andThen_ok,ex,ek,pW,Sem.run_pure,kr,Kh,j6 hE hz w]
    |some jv=>
     obtain⟨v',e,hr⟩:=q3 jv.1 jv.2 rfl;subst e;simp only at h7;subst h7;refine⟨_,fin jv.2 v' true hr,?_⟩;simp only[execOp,Instr.lookup,Sem.run_bind,aH hE hd w,Result.andThen_ok,ex,ek,pW,Sem.run_pure,kr,Kh]
  ·cases h3
 case call c=>
  simp only[bL]at hq;split at hq
  ·rename_i t ts BR VJ;simp only[Option.bind_eq_some_iff]at hq;obtain⟨d,hd,args,h1,h2⟩:=hq;split at h2
   ·rename_i kt et r rest;simp only[Option.some.injEq]at h2;subst h2;have hr:=kq hg hf h1;cases kQ:c.args.toList.map a.eval with
    |nil=>rw[kQ]at hr;cases hr
    |cons u us=>
     rw[kQ]at hr;cases hr with
     |cons hx _=>
      obtain⟨m,hb,rfl⟩:=hx.lF;obtain⟨h,hv,H⟩:=Hq m hb;simp only[RQ.run,Option.bind_eq_some_iff,Option.some.injEq]at hv;obtain⟨⟨es,clock⟩,h4,rfl⟩:=hv;obtain⟨o1,o2,k1,k2,k3⟩:=H;have hm:h.get r=some (.map es clock):=by
       unfold eR at h4;split at h4<;>simp at h4;obtain⟨rfl,rfl⟩:=h4;assumption
      simp only[RQ.dw]at k1 k3;rw[hm]at k1;cases k1;cases k3 with
      |map hs=>
       rename_i bS;have pW:=run_getObj_map (P:=P) k2 (fun _ _ _=>by simp);have e0:(c.args.map a.eval)[0]? =some (.map (some m.r)):=by
        have:(c.args.map a.eval).toList= .map (some m.r)::us:=by simpa using kQ
        rw[←Array.getElem?_toList,this];rfl
       have e1:c.argTypes[0]? =some t:=by rw[←Array.getElem?_toList,VJ];rfl
       refine⟨goInt bS.size,?_,?_⟩
       ·have:=hs.length;simp only[Array.length_toList]at this;rw[this];exact .int μ _ _
       ·simp only[execOp,resolve,BR,Sem.run_bind,Sem.run_pure,Result.andThen_ok,invoke,builtin,Builtin.len_,e0,e1,aH hE hd w,pW]
   ·cases h2
  ·cases hq
 all_goals(simp only[bL]at hq;cases hq)
def zG (o:Oper) (f f':AF):Prop:=∀t,Operand.tmp t∈o.op.operands→f.get t=f'.get t
theorem bP {f f':AF} {x:Operand} (h:∀t,x= .tmp t→f.get t=f'.get t):ev E f x=ev E f' x:=by
 cases x<;>simp only[ev];rw[h _ rfl]
theorem mM {f f':AF}:∀{xs:List Operand},(∀t,Operand.tmp t∈xs→f.get t=f'.get t)→Gt E f xs=Gt E f' xs
 |[],_=>rfl
 |x::l,h=>by
  simp only[Gt];rw[bP (fun t e=>h t (by rw[e];exact List.mem_cons_self)),mM fun t ht=>h t (List.mem_cons_of_mem _ ht)]
theorem nN {f f':AF}:∀{xs:List (Nat×Operand)},(∀t,Operand.tmp t∈xs.map (·.2)→f.get t=f'.get t)→iC E f xs=iC E f' xs
 |[],_=>rfl
 |(i,x)::l,h=>by
  simp only[iC];rw[bP (fun t e=>h t (by rw[e];exact List.mem_cons_self)),nN fun t ht=>h t (List.mem_cons_of_mem _ ht)]
theorem rB {f f':AF} {x:Option Operand} (h:∀t,x=some (.tmp t)→f.get t=f'.get t):oT E f x=oT E f' x:=by
 cases x<;>simp only[oT];rw[bP fun t e=>h t (by rw[e])]
theorem GK {f f':AF} {o:Oper} (h:zG o f f'):aM E f o=aM E f' o:=by
 obtain⟨dst,op,type,pos,after,guard⟩:=o;unfold zG at h;cases op<;>simp only[Op.operands]at h<;>simp only[aM]
 case call c=>
  have h2:∀t,Operand.tmp t∈c.args.toList→f.get t=f'.get t:=fun t ht=>h t (by simp[Call.operands]at ht ⊢;exact .inr ht);rw[mM h2]
 case makeFunc fn first captured=>
  rw[mM (xs:=first.toList) fun t ht=>h t (by simp at ht ⊢;exact .inl ht),mM (xs:=captured.toList) fun t ht=>h t (by simp at ht ⊢;exact .inr ht)]
 case build t ps=>rw[nN fun t ht=>h t (by simpa using ht)]
 case slice t x lo hi mx=>
  rw[bP fun t e=>h t (by simp[e]),rB (x:=lo) fun t e=>h t (by simp[e]),rB (x:=hi) fun t e=>h t (by simp[e]),rB (x:=mx) fun t e=>h t (by simp[e])]
 case pick c x y=>rw[bP (x:=c) fun t e=>h t (by simp[e]),bP (x:=x) fun t e=>h t (by simp[e]),bP (x:=y) fun t e=>h t (by simp[e])]
 case binOp op t x y z=>rw[bP (x:=x) fun t e=>h t (by simp[e]),bP (x:=y) fun t e=>h t (by simp[e])]
 case indexAddr t x y=>rw[bP (x:=x) fun t e=>h t (by simp[e]),bP (x:=y) fun t e=>h t (by simp[e])]
 case index t x y=>rw[bP (x:=x) fun t e=>h t (by simp[e]),bP (x:=y) fun t e=>h t (by simp[e])]
 case lookup t x y k=>rw[bP (x:=x) fun t e=>h t (by simp[e]),bP (x:=y) fun t e=>h t (by simp[e])]
 all_goals first|rfl |(rw[bP fun t e=>h t (by simp[e])])
theorem GL {f f':AF} {o:Oper} (h:zG o f f'):bL E f o=bL E f' o:=by
 obtain⟨dst,op,type,pos,after,guard⟩:=o;unfold zG at h;cases op<;>simp only[Op.operands]at h<;>simp only[bL]
 case call c=>
  have h2:∀t,Operand.tmp t∈c.args.toList→f.get t=f'.get t:=fun t ht=>h t (by simp[Call.operands]at ht ⊢;exact .inr ht);rw[mM h2]
 case lookup t x y k=>rw[bP (x:=x) fun t e=>h t (by simp[e]),bP (x:=y) fun t e=>h t (by simp[e])]
 all_goals first|rfl |(rw[bP fun t e=>h t (by simp[e])])
theorem DS {f f':AF} {o:Oper} (h:zG o f f'):bf E f o=bf E f' o:=by
 obtain⟨dst,op,type,pos,after,guard⟩:=o;unfold zG at h;cases op<;>simp only[Op.operands]at h<;>simp only[bf]
 case buildSlice t n ps=>rw[nN fun t ht=>h t (by simpa using ht)]
 case makeMap t r=>cases r<;>rfl
 case makeSlice t x y=>rw[bP (x:=x) fun t e=>h t (by simp[e]),bP (x:=y) fun t e=>h t (by simp[e])]
 all_goals first|rfl |(rw[bP fun t e=>h t (by simp[e])])
theorem Kl {f f':AF} {o:Oper} (h:zG o f f') (k:ab):da E base f o k=da E base f' o k:=by
 obtain⟨dst,op,type,pos,after,guard⟩:=o;unfold zG at h;cases op<;>simp only[Op.operands]at h<;>simp only[da]
 case call c=>
  have h2:∀t,Operand.tmp t∈c.args.toList→f.get t=f'.get t:=fun t ht=>h t (by simp[Call.operands]at ht ⊢;exact .inr ht);rw[mM h2];cases hc:c.callee with
  |value g=>
   have h3:∀t,g= .tmp t→f.get t=f'.get t:=fun t ht=>h t (by simp[Call.operands,hc,ht]);simp only
   rw[bP h3]
  |builtin b=>rfl
  |invoke r m=>rfl
 case store t x y=>rw[bP (x:=x) fun t e=>h t (by simp[e]),bP (x:=y) fun t e=>h t (by simp[e])]
 case mapUpdate t x y z|insert t x y z=>rw[bP (x:=x) fun t e=>h t (by simp[e]),bP (x:=y) fun t e=>h t (by simp[e]),bP (x:=z) fun t e=>h t (by simp[e])]
 all_goals first|rfl |(rw[bP fun t e=>h t (by simp[e])])
theorem GM {f f':AF} {o:Oper} (h:zG o f f') (k:ab) (cf:fJ) (rf:eS):eH E base cf rf o f k=eH E base cf rf o f' k:=by
 unfold eH;rw[GK h,GL h,DS h,Kl h]
def AF.only (f:AF) (l:List Nat):AF:=⟨l.foldl (fun tr t=>tr.set t (f.get t)) .nil,f.n⟩
theorem AF.xj (f:AF) (l:List Nat) (t:Nat):(f.only l).get t=if t∈l then f.get t else undef:=by
 have key:∀(l:List Nat) (tr:Tr Value),(∀t,tr.get t=none∨tr.get t=some (f.get t))→∀t,(l.foldl (fun tr t=>tr.set t (f.get t)) tr).get t=if t∈l then some (f.get t)else tr.get t:=by
  intro l
  induction l with
  |nil=>intro tr _ t;simp
  |cons x l ih=>
   intro tr VV t;simp only[List.foldl_cons];have h0:∀t,(tr.set x (f.get x)).get t=none∨(tr.set x (f.get x)).get t=some (f.get t):=fun t=>by
    rw[Tr.g7];by_cases e:t=x
    ·subst e;rw[if_pos rfl];exact .inr rfl
    ·rw[if_neg e];exact VV t
   rw[ih _ h0 t,Tr.g7];by_cases h1:t∈l
   ·simp[h1]
   ·by_cases h2:t=x
    ·subst h2;simp
    ·simp[h1,h2]
 have e:(f.only l).get t=(match(l.foldl (fun(tr:Tr Value) t=>tr.set t (f.get t)) Tr.nil).get t with|some v=>v|none=>undef):=rfl;rw[e,key l .nil (fun _=>.inl rfl) t,Tr.get_nil];by_cases ht:t∈l
 ·rw[if_pos ht,if_pos ht]
 ·rw[if_neg ht,if_neg ht]
def mN (tmps:Array Value) (l:List Nat):Array Value:=(Array.range tmps.size).map fun t=>if t∈l then tmps.getD t undef else undef
theorem xk (tmps:Array Value) (l:List Nat):(mN tmps l).size=tmps.size:=by simp[mN]
theorem Af (tmps:Array Value) (l:List Nat) (t:Nat):(mN tmps l).getD t undef=if t∈l then tmps.getD t undef else undef:=by
 by_cases ht:t<tmps.size
 ·simp[mN,ht]
 ·simp[mN,ht]
def Ag (a:Act) (l:List Nat):Act:={a with tmps:=mN a.tmps l}
theorem NF {f:AF} {a:Act} {l:List Nat} (hn:a.tmps.size=f.n) (h:∀t∈l,au μ (f.get t) (a.tmps.getD t undef)):cY μ (f.only l) (Ag a l).tmps:=by
 refine⟨?_,fun t=>?_⟩
 ·show f.n=(mN a.tmps l).size;rw[xk];exact hn.symm
 ·show au μ _ ((mN a.tmps l).getD t undef);rw[AF.xj,Af];split
  ·exact h t ‹_›
  ·exact .undef μ
theorem qF {ops:List Oper} {o:Oper} {t:Nat} (h:Operand.tmp t∈o.op.operands):t∈looks ops o:=by
 unfold looks;exact List.mem_append_left _ (List.mem_filterMap.2 ⟨.tmp t,by simpa using h,rfl⟩)
theorem ov {ops:List Oper} {o:Oper} {g:Nat} {want:Bool} {t:Nat} (h:o.guard=some (g,want)) (h2:(ops[g]?).bind (·.dst)=some t):t∈looks ops o:=by
 unfold looks;rw[h];simp[h2]
theorem Km (ops:List Oper) (o:Oper) (f:AF):zG o (f.only (looks ops o)) f:=fun t ht=>by
 rw[AF.xj,if_pos (qF ht)]
theorem DT (ops:List Oper) (o:Oper) (f:AF):wanted ops o (f.only (looks ops o))=wanted ops o f:=by
 unfold wanted;cases hg:o.guard with
 |none=>rfl
 |some gw=>
  obtain⟨g,want⟩:=gw;simp only
  cases hd:(ops[g]?).bind (·.dst)with
  |none=>rfl
  |some t=>
   simp only
   rw[AF.xj,if_pos (ov hg hd)]
theorem Kn {ops:List Oper} {o:Oper} {a:Act} {x:Operand} (h:x∈o.op.operands):a.eval x=(Ag a (looks ops o)).eval x:=by
 cases x with
 |tmp t=>
  have:=Af a.tmps (looks ops o) t;rw[if_pos (qF h)]at this;show a.tmps.getD t undef=(mN a.tmps (looks ops o)).getD t undef;exact this.symm
 |_=>rfl
theorem Ko {ops:List Oper} {o:Oper} {a:Act} (hs:∀cs b,o.op≠ .select cs b):execOp a.eval o=execOp (Ag a (looks ops o)).eval o:=
 execOp_congr o hs fun _ hx=>Kn hx
theorem B4 {ops:Array Oper} {o:Oper} {a:Act}:Region.wanted o (yielded ops (Ag a (looks ops.toList o)).tmps)=Region.wanted o (yielded ops a.tmps):=by
 unfold Region.wanted;cases hg:o.guard with
 |none=>rfl
 |some gw=>
  obtain⟨g,want⟩:=gw;simp only
  congr 1
  unfold yielded;cases hd:(ops[g]?).bind (·.dst)with
  |none=>simp
  |some t=>
   simp only[Option.bind_some];have hm:t∈looks ops.toList o:=ov hg (by simpa using hd);show(match(mN a.tmps (looks ops.toList o))[t]? with|some (.bool b)=>some b|_=>none)=_;by_cases ht:t<a.tmps.size
   ·have h1:(mN a.tmps (looks ops.toList o))[t]? =a.tmps[t]? :=by
     simp[mN,ht,hm]
    rw[h1];rfl
   ·have e1:a.tmps[t]? =none:=Array.getElem?_eq_none (Nat.le_of_not_lt ht);have e2:(mN a.tmps (looks ops.toList o))[t]? =none:=Array.getElem?_eq_none (by rw[xk];exact Nat.le_of_not_lt ht);rw[e1,e2]
theorem noSelect {cf:fJ} {rf:eS} {o:Oper} {r:Vu} {k:ab} (h:eH E base cf rf o f k=some r):∀cs b,o.op≠ .select cs b:=by
 intro cs b hc;unfold eH at h;simp only[aM,bL,bf,da,hc]at h;cases h
end
section
variable {E:Env} {base:Nat} {cf:fJ} {rf:eS}
theorem vd {o:Oper} {f:AF} {h:ab} {r:Vu} (hr:eH E base cf rf o f h=some r):
 (aM E f o=some r.v∧r.h=h∧r.log= .pure)∨
 (∃q,bL E f o=some q∧q.run h=some r.v∧r.h=h∧r.log= .rd q h)∨
 (∃md hd,bf E f o=some (md,hd)∧r.v=hd.val h.size∧r.h=h.push (md.obj h.size)∧r.log= .alloc h r.h)∨
 r.log= .du h r.h:=by
 unfold eH at hr;split at hr
 ·simp only[Option.some.injEq]at hr;subst hr;exact .inl ⟨by assumption,rfl,rfl⟩
 ·split at hr
  ·simp only[Option.bind_eq_some_iff,Option.some.injEq]at hr;obtain⟨v,hv,rfl⟩:=hr;exact .inr (.inl ⟨_,by assumption,hv,rfl,rfl⟩)
  ·split at hr
   ·simp only[Option.some.injEq]at hr;subst hr;exact .inr (.inr (.inl ⟨_,_,by assumption,rfl,rfl,rfl⟩))
   ·split at hr
    ·simp only[Option.some.injEq]at hr;subst hr;rename_i he;refine .inr (.inr (.inr rfl))
    ·simp only[Option.bind_eq_some_iff,Option.some.injEq]at hr;obtain⟨x,_,rfl⟩:=hr;exact .inr (.inr (.inr rfl))
    ·simp only[Option.bind_eq_some_iff,Option.some.injEq]at hr;obtain⟨x,_,rfl⟩:=hr;exact .inr (.inr (.inr rfl))
    ·cases hr
structure Trace (E:Env) (base:Nat) (cf:fJ) (rf:eS) (all ops:List Oper) (fs:Nat→AF) (hs:Nat→ab) (vs:Nat→Value) (lg:Nat→dZ):Prop where
 put:∀j o,ops[j]? =some o→fs (j+1)=(fs j).put o.dst (vs j)
 run:∀j o,ops[j]? =some o→(wanted all o (fs j)=true∧eH E base cf rf o (fs j) (hs j)=some ⟨vs j,hs (j+1),lg j⟩)∨(wanted all o (fs j)=false∧vs j=undef∧hs (j+1)=hs j∧lg j= .pure)
theorem DU {all:List Oper}:∀{ops:List Oper} {f:AF} {h:ab} {f':AF} {h':ab} {uj:List dZ},lB E base cf rf all ops f h=some (f',h',uj)→
 ∃fs hs vs lg,Trace E base cf rf all ops fs hs vs lg∧fs 0=f∧hs 0=h∧fs ops.length=f'∧hs ops.length=h'∧∀j,j<ops.length→uj[j]? =some (lg j)
 |[],f,h,f',h',uj,hr=>by
  simp only[lB,Option.some.injEq,Prod.mk.injEq]at hr;obtain⟨rfl,rfl,rfl⟩:=hr;exact⟨fun _=>f,fun _=>h,fun _=>undef,fun _=>.pure,⟨fun j o ho=>by simp at ho,fun j o ho=>by simp at ho⟩,rfl,rfl,rfl,rfl,fun j hj=>by simp at hj⟩
 |o::ops,f,h,f',h',uj,hr=>by
  simp only[lB]at hr
  have fin:∀(v:Value) (h1:ab) (l1:dZ) (f1:AF) (h2:ab) (l2:List dZ),lB E base cf rf all ops (f.put o.dst v) h1=some (f1,h2,l2)→
   ((wanted all o f=true∧eH E base cf rf o f h=some ⟨v,h1,l1⟩)∨(wanted all o f=false∧v=undef∧h1=h∧l1= .pure))→
   ∃fs hs vs lg,Trace E base cf rf all (o::ops) fs hs vs lg∧fs 0=f∧hs 0=h∧fs (o::ops).length=f1∧hs (o::ops).length=h2∧∀j,j<(o::ops).length→(l1::l2)[j]? =some (lg j):=by
   intro v h1 l1 f1 h2 l2 gD hk;obtain⟨fs,hs,vs,lg,T,e1,e2,e3,e4,e5⟩:=DU gD;refine⟨fun |0=>f|j+1=>fs j,fun |0=>h|j+1=>hs j,fun |0=>v|j+1=>vs j,fun |0=>l1|j+1=>lg j,⟨?_,?_⟩,rfl,rfl,e3,e4,?_⟩
   ·intro j p hp;cases j with
    |zero=>simp at hp;subst hp;exact e1
    |succ j=>exact T.put j p (by simpa using hp)
   ·intro j p hp;cases j with
    |zero=>simp at hp;subst hp;simpa[e2]using hk
    |succ j=>exact T.run j p (by simpa using hp)
   ·intro j hj;cases j with
    |zero=>rfl
    |succ j=>simpa using e5 j (by simpa using hj)
  split at hr
  ·rename_i hw;simp only[Option.bind_eq_some_iff,Option.some.injEq,Prod.mk.injEq]at hr;obtain⟨r,jX,⟨f1,h2,l2⟩,pX,rfl,rfl,rfl⟩:=hr;exact fin _ _ _ _ _ _ pX (.inl ⟨hw,by rw[jX]⟩)
  ·rename_i hw;simp only[Option.bind_eq_some_iff,Option.some.injEq,Prod.mk.injEq]at hr;obtain⟨⟨f1,h2,l2⟩,pX,rfl,rfl,rfl⟩:=hr;exact fin _ _ _ _ _ _ pX (.inr ⟨hw,rfl,rfl,rfl⟩)
def GN (acc:List Nat) (s:Nat) (e:Edge):Nat:=match Region.binds .any e with|true=>s|||2 ^ e.on|||acc.getD e.on 0|false=>s
theorem B5 (p:Oper) (l:List Oper) (acc:List Nat):db (p::l) acc=db l (acc++[p.after.toList.foldl (GN acc) 0]):=rfl
theorem xl (acc:List Nat) (b:Nat):∀(es:List Edge) (s:Nat),(es.foldl (GN acc) s).testBit b=true→
 s.testBit b=true∨∃e∈es,Region.binds .any e=true∧(b=e.on∨(acc.getD e.on 0).testBit b=true)
 |[],s,h=>.inl h
 |e::es,s,h=>by
  simp only[List.foldl_cons]at h;rcases xl acc b es _ h with h1|⟨e',h1,h2⟩
  ·unfold GN at h1;cases hb:Region.binds .any e with
   |false=>rw[hb]at h1;exact .inl h1
   |true=>
    rw[hb]at h1;simp only[Nat.testBit_or,Bool.or_eq_true,Nat.testBit_two_pow,decide_eq_true_eq]at h1;rcases h1 with (h1|h1)|h1
    ·exact .inl h1
    ·exact .inr ⟨e,List.mem_cons_self,hb,.inl h1.symm⟩
    ·exact .inr ⟨e,List.mem_cons_self,hb,.inr h1⟩
  ·exact .inr ⟨e',List.mem_cons_of_mem _ h1,h2⟩
theorem su:∀(l:List Oper) (acc:List Nat),∃ys,db l acc=acc++ys∧∀i o,l[i]? =some o→∀b,((acc++ys).getD (acc.length+i) 0).testBit b=true→
 ∃e∈o.after.toList,Region.binds .any e=true∧(b=e.on∨(e.on<acc.length+i∧((acc++ys).getD e.on 0).testBit b=true))
 |[],acc=>⟨[],by simp[db],fun i o h=>by simp at h⟩
 |p::l,acc=>by
  obtain⟨ys,h1,h2⟩:=su l (acc++[p.after.toList.foldl (GN acc) 0]);refine⟨(p.after.toList.foldl (GN acc) 0)::ys,by rw[B5,h1];simp,fun i o ho b hb=>?_⟩;cases i with
  |zero=>
   simp at ho;subst ho;have e0:(acc++(p.after.toList.foldl (GN acc) 0)::ys).getD (acc.length+0) 0=(p.after.toList.foldl (GN acc) 0):=by
    simp[List.getD]
   rw[e0]at hb;rcases xl _ _ _ _ hb with hz|⟨e,k1,k2,k3⟩
   ·simp at hz
   ·refine⟨e,k1,k2,?_⟩;rcases k3 with k3|k3
    ·exact .inl k3
    ·by_cases bH:e.on<acc.length
     ·refine .inr ⟨om,?_⟩;rw[←k3];simp[List.getD,List.getElem?_append_left bH]
     ·simp[List.getD,List.getElem?_eq_none (Nat.le_of_not_lt bH)]at k3
  |succ i=>
   have:=h2 i o (by simpa using ho) b (by simpa[Nat.add_assoc,Nat.add_comm 1 i]using hb);simpa[Nat.add_assoc,Nat.add_comm 1 i]using this
theorem ve {ops:List Oper} {i:Nat} {o:Oper} (ho:ops[i]? =some o) {b:Nat} (hb:((db ops []).getD i 0).testBit b=true):
 ∃e∈o.after.toList,Region.binds .any e=true∧(b=e.on∨(e.on<i∧((db ops []).getD e.on 0).testBit b=true)):=by
 obtain⟨ys,h1,h2⟩:=su ops [];simp only[List.nil_append,List.length_nil,Nat.zero_add]at h1 h2;rw[h1]at hb ⊢;exact h2 i o ho b hb
theorem sw {ops:List Oper} {bs:List Nat} {i:Nat} {o:Oper}:∀{l:List Oper} {j0:Nat},oY ops bs i o j0 l=true→∀k p,l[k]? =some p→i≠j0+k→∀d,p.dst=some d→o.dst≠some d∧(d∈looks ops o→ordered bs i (j0+k)=true)
 |[],j0,_,k,p,hp,_,d,_=>by simp at hp
 |q::l,j0,h,k,p,hp,bc,d,hd=>by
  simp only[oY,Bool.and_eq_true,Bool.or_eq_true,beq_iff]at h;obtain⟨h1,h2⟩:=h;cases k with
  |zero=>
   simp at hp;subst hp;rcases h1 with h1|h1
   ·exact absurd h1 bc
   ·rw[hd]at h1;simp only[Bool.and_eq_true,bne_iff_ne,Bool.or_eq_true,Bool.not_eq_true']at h1;refine⟨h1.1,fun hm=>?_⟩;rcases h1.2 with h3|h3
    ·have:(looks ops o).contains d=true:=by simpa using hm
     rw[this]at h3;cases h3
    ·exact h3
  |succ k=>
   have:=sw h2 k p (by simpa using hp) om d hd;rw[show j0+(k+1)=j0+1+k by omega];exact this
theorem vf {ops:List Oper} {bs:List Nat}:∀{l:List Oper} {i0:Nat},wm ops bs i0 l=true→∀k o,l[k]? =some o→oY ops bs (i0+k) o 0 ops=true∧∀e∈o.after.toList,Region.binds .any e=true→e.on<i0+k
 |[],i0,_,k,o,ho=>by simp at ho
 |q::l,i0,h,k,o,ho=>by
  simp only[wm,Bool.and_eq_true,List.all_eq_true,Bool.or_eq_true,Bool.not_eq_true',aS]at h;obtain⟨⟨h1,h2⟩,h3⟩:=h;cases k with
  |zero=>
   simp at ho;subst ho;refine⟨h1,fun e he hb=>?_⟩;rcases h2 e he with h4|h4
   ·rw[hb]at h4;cases h4
   ·exact h4
  |succ k=>
   have:=vf h3 k o (by simpa using ho);rw[show i0+(k+1)=i0+1+k by omega];exact this
structure nO (ops:List Oper):Prop where
 Zw:∀(i:Nat) (o:Oper),ops[i]? =some o→∀e∈o.after.toList,Region.binds .any e=true→e.on<i
 one:∀(i j:Nat) (o p:Oper) (d:Tmp),ops[i]? =some o→ops[j]? =some p→i≠j→p.dst=some d→o.dst≠some d
 look:∀(i j:Nat) (o p:Oper) (d:Tmp),ops[i]? =some o→ops[j]? =some p→i≠j→p.dst=some d→d∈looks ops o→ordered (db ops []) i j=true
theorem VW {ops:List Oper} (h:mG ops=true):nO ops:=by
 have key:=fun i o ho=>vf (l:=ops) (i0:=0) h i o ho;simp only[Nat.zero_add]at key;have k2:=fun i o ho j p (hp:ops[j]? =some p)=>sw (l:=ops) (j0:=0) (key i o ho).1 j p hp;simp only[Nat.zero_add]at k2;exact⟨fun i o ho=>(key i o ho).2,fun i j o p d ho hp bc hd=>(k2 i o ho j p hp bc d hd).1,fun i j o p d ho hp bc hd hm=>(k2 i o ho j p hp bc d hd).2 hm⟩
theorem NG {ops:List Oper} (T:nO ops):∀(j:Nat) (o:Oper),ops[j]? =some o→∀b,((db ops []).getD j 0).testBit b=true→b<j:=by
 intro j
 induction j using Nat.strongRecOn with
 |ind j ih=>
  intro o ho b hb;obtain⟨e,h1,h2,h3⟩:=ve ho hb;have bH:=T.Zw j o ho e h1 h2;rcases h3 with rfl |⟨h3,h4⟩
  ·exact bH
  ·have hlen:j<ops.length:=(List.getElem?_eq_some_iff.1 ho).1;have:=ih e.on h3 _ (List.getElem?_eq_getElem om) b h4;omega
def xm (_:List Oper) (L:Nat→Bool) (o:Oper):Prop:=∀e∈o.after.toList,Region.binds .any e=true→L e.on=true
def rC (ops:List Oper) (L:Nat→Bool):Prop:=∀j o,ops[j]? =some o→L j=true→xm ops L o
theorem GO {ops:List Oper} {L:Nat→Bool} (C:rC ops L):∀(j:Nat) (o:Oper),ops[j]? =some o→xm ops L o→∀b,((db ops []).getD j 0).testBit b=true→L b=true:=by
 intro j
 induction j using Nat.strongRecOn with
 |ind j ih=>
  intro o ho hr b hb;obtain⟨e,h1,h2,h3⟩:=ve ho hb;have hl:=hr e h1 h2;rcases h3 with rfl |⟨h3,h4⟩
  ·exact hl
  ·have hlen:j<ops.length:=(List.getElem?_eq_some_iff.1 ho).1;have h5:=List.getElem?_eq_getElem (l:=ops) (i:=e.on) om;exact ih e.on h3 _ h5 (C _ _ h5 hl) b h4
theorem fU {ops:List Oper} (T:nO ops) {L:Nat→Bool} (C:rC ops L) {i j:Nat} (Dq:i<j) {o:Oper} (ho:ops[j]? =some o) (hr:xm ops L o) (h:ordered (db ops []) i j=true∨ordered (db ops []) j i=true):L i=true:=by
 have hlen:j<ops.length:=(List.getElem?_eq_some_iff.1 ho).1;have h5:=List.getElem?_eq_getElem (l:=ops) (i:=i) om;have:((db ops []).getD j 0).testBit i=true:=by
  unfold ordered at h;simp only[Bool.or_eq_true]at h;rcases h with (h|h)|(h|h)
  ·exact h
  ·have:=NG T i _ h5 j h;omega
  ·have:=NG T i _ h5 j h;omega
  ·exact h
 exact GO C j o ho hr i this
theorem sx {bs:List Nat} {i:Nat} {x:dZ}:∀{l:List dZ} {j0:Nat},cd bs i x j0 l=true→∀k y,l[k]? =some y→aX bs i x (j0+k) y=true
 |[],_,_,k,y,h=>by simp at h
 |z::l,j0,h,k,y,hy=>by
  simp only[cd,Bool.and_eq_true]at h;cases k with
  |zero=>simp at hy;subst hy;exact h.1
  |succ k=>
   have:=sx h.2 k y (by simpa using hy);rw[show j0+(k+1)=j0+1+k by omega];exact this
theorem vg {bs:List Nat}:∀{l:List dZ} {i0:Nat},lD bs i0 l=true→(∀(i:Nat) (x:dZ),l[i]? =some x→lZ x=true)∧∀(i j:Nat) (x y:dZ),i<j→l[i]? =some x→l[j]? =some y→aX bs (i0+i) x (i0+j) y=true
 |[],_,_=>⟨fun i x h=>by simp at h,fun i j x y _ h=>by simp at h⟩
 |z::l,i0,h=>by
  simp only[lD,Bool.and_eq_true]at h;obtain⟨⟨h1,h2⟩,h3⟩:=h;obtain⟨k1,k2⟩:=vg h3;refine⟨fun i x hx=>?_,fun i j x y Dq hx hy=>?_⟩
  ·cases i with
   |zero=>simp at hx;subst hx;exact h1
   |succ i=>exact k1 i x (by simpa using hx)
  ·cases j with
   |zero=>omega
   |succ j=>
    cases i with
    |zero=>
     simp at hx;subst hx;have:=sx h2 j y (by simpa using hy);rw[show i0+(j+1)=i0+1+j by omega];exact this
    |succ i=>
     have:=k2 i j x y om (by simpa using hx) (by simpa using hy);rw[show i0+(i+1)=i0+1+i by omega,show i0+(j+1)=i0+1+j by omega];exact this
variable {all ops:List Oper} {fs:Nat→AF} {hs:Nat→ab} {vs:Nat→Value} {lg:Nat→dZ}
theorem Trace.VX (T:Trace E base cf rf all ops fs hs vs lg):∀k,k≤ops.length→(fs k).n=(fs 0).n:=by
 intro k
 induction k with
 |zero=>intro _;rfl
 |succ k ih=>
  intro hk;rw[T.put k _ (List.getElem?_eq_getElem om),AF.T9,ih om]
theorem AF.bJ (f:AF) (d:Option Tmp) (v:Value) (t:Nat):(f.put d v).get t=if d=some t∧t<f.n then v else f.get t:=by
 cases d with
 |none=>simp[AF.put]
 |some d=>
  simp only[AF.put,AF.g7,Option.some.injEq];by_cases e:t=d
  ·subst e;simp
  ·have:d≠t:=fun h=>e h.symm;simp[e,this]
theorem Trace.NH (T:Trace E base cf rf all ops fs hs vs lg) (t:Nat):∀k,k≤ops.length→(∀j o,j<k→ops[j]? =some o→o.dst≠some t)→(fs k).get t=(fs 0).get t:=by
 intro k
 induction k with
 |zero=>intro _ _;rfl
 |succ k ih=>
  intro hk vh;rw[T.put k _ (List.getElem?_eq_getElem om),AF.bJ,if_neg (fun h=>vh k _ om (List.getElem?_eq_getElem om) h.1),ih om fun j o hj ho=>vh j o om ho]
theorem Trace.NJ (T:Trace E base cf rf all ops fs hs vs lg) (X:nO ops) {t:Nat} (ht:t<(fs 0).n) {j:Nat} {o:Oper} (ho:ops[j]? =some o) (hd:o.dst=some t):∀k,k≤ops.length→j<k→(fs k).get t=vs j:=by
 intro k
 induction k with
 |zero=>intro _ h;omega
 |succ k ih=>
  intro hk Zx;have Kp:=List.getElem?_eq_getElem (l:=ops) (i:=k) om;rw[T.put k _ Kp,AF.bJ];by_cases e:j=k
  ·subst e;rw[Kp]at ho;cases ho;rw[if_pos ⟨hd,by rw[T.VX j om];exact ht⟩]
  ·rw[if_neg (fun h=>X.one k j _ o t Kp ho (fun h=>e h.symm) hd h.1),ih om om]
end
section
variable {P:Program} {E:Env} {μ:bn} {f:AF} {a:Act} {base B:Nat} {h:ab} {w:World} {cf:fJ} {rf:eS}
theorem Rm (hE:bu P E) (rz:j8 P E base B cf) (BV:nH P E base B rf) (BW:nJ E cf) (BX:kT rf) {F:Fence} (hF:gO F) {n:Nat} (hf:cY μ f a.tmps) (H:bh E base B μ h w) {o:Oper} {r:Vu} (hr:eH E base cf rf o f h=some r) {a1:Act} (hex:execOp a1.eval o=execOp a.eval o)
 {next:Act→World→Prop} {Q:Exit→Act→World→Prop} (hn:∀aU v' w',au aU r.v v'→Step E base B μ h w aU r.h w'→next (a1.put o.dst v') w'):o.wpIn F n P a1 w next Q:=by
 have hg:gB E μ:=H.dc;refine⟨fun _ _=>hF.fn _,?_⟩;rw[Oper.semAt_eq _ _ _ (BU hr),hex];unfold eH at hr;split at hr
 ·rename_i v hp;simp only[Option.some.injEq]at hr;subst hr;obtain⟨v',q1,q2⟩:=pV hE hg hf hp;rw[q2 w];exact hn μ v' w q1 (.refl H)
 ·split at hr
  ·rename_i q hq;simp only[Option.bind_eq_some_iff,Option.some.injEq]at hr;obtain⟨v,hv,rfl⟩:=hr;obtain⟨v',q1,q2⟩:=uf hE hf H hq hv;rw[q2];exact hn μ v' w q1 (.refl H)
  ·split at hr
   ·rename_i md hd cW;simp only[Option.some.injEq]at hr;subst hr;obtain⟨o',k,hv,S⟩:=nC hE hg hf cW;rw[S.run w];have st:=Step.alloc (o:=md.obj h.size) H (DC.mk' w o') k (fun cs f cA aQ hh=>by cases md<;>simp[Made.obj]at hh;exact⟨hh.2.1.symm,hh.2.2.1.symm⟩) (S.obj _ _ _ _ _ (gA H.fresh));exact hn _ _ _ (S.val _ _ _ (bN _ _ _)) st
   ·split at hr
    ·rename_i v h' he;simp only[Option.some.injEq]at hr;subst hr;obtain⟨aU,nx,v',w',q1,q2,q3,q4⟩:=xe hE hf H he;rw[q1];rcases q2 with rfl |⟨rfl,rfl⟩
     ·exact hn aU v' w' q3 q4
     ·exact hn aU undef w' q3 q4
    ·rename_i g args h' he;simp only[Option.bind_eq_some_iff,Option.some.injEq]at hr;obtain⟨⟨v,h2⟩,hc,rfl⟩:=hr;have xf:=BW _ _ _ _ hc;obtain⟨args',e,q1,q2⟩:=rq hE hf H he xf;subst e;rw[q2];refine⟨hF.ok n,(rz μ h' w g args args' v h2 hc q1 H F (n - 1) hF).mono ?_⟩;rintro e w' ⟨v',aU,rfl,k1,k2⟩;exact hn aU v' w' k1 k2
    ·rename_i l args h' he;simp only[Option.bind_eq_some_iff,Option.some.injEq]at hr;obtain⟨⟨v,h2⟩,hc,rfl⟩:=hr;obtain⟨st,p,f0,ps,iW,body,hl,hlen⟩:=BX _ _ _ _ hc;have hh:h'=h:=by
      obtain⟨dst,op,type,pos,after,guard⟩:=o;cases op<;>simp only[da]at he<;>first|cases he|skip
      all_goals simp only[Option.bind_eq_some_iff,Option.some.injEq,Prod.mk.injEq,ai,reduceCtorEq,false_and,and_false,exists_false]at he
      ·obtain⟨_,_,_,_,he⟩:=he;split at he
       ·split at he<;>simp at he
       ·cases he
      ·obtain⟨_,_,he⟩:=he;split at he
       ·first|(simp at he;done)|(obtain⟨_,_,he⟩:=he;simp at he;done)|(simp only[Option.bind_eq_some_iff]at he;obtain⟨_,_,he⟩:=he;cases he)
       ·try simp only[Option.bind_eq_some_iff]at he
        obtain⟨_,_,he⟩:=he;split at he
        ·simp at he
        ·simp only[Option.some.injEq,Prod.mk.injEq]at he;exact he.2.symm
        ·cases he
       ·cases he
     subst hh;obtain⟨m,args',lo,_,hb,hw,q1,q2,q3⟩:=ry (P:=P) hf H he hl hlen;rw[q2];refine⟨hF.ok n,(BV μ h' w l args v h2 m f0 ps iW body st p lo.fn _ hc hl hb H (nK q3 q1) F (n - 1) hF).mono ?_⟩;rintro e w' ⟨v',aU,rfl,k1,k2⟩;exact hn aU v' w' k1 k2
    ·cases hr
def cut (μ:bn) (s:Nat):bn:=fun b=>if b<s then μ b else none
theorem dE {μ:bn} {s b:Nat} {m:MT}:cut μ s b=some m↔b<s∧μ b=some m:=by
 unfold cut;split<;>simp[*]
theorem gP {μ aU:bn} (h:μ.le aU) {s t:Nat} (hs:s≤t):(cut μ s).le (cut aU t):=fun b m hb=>by
 have:=dE.1 hb;exact dE.2 ⟨om,h _ _ this.2⟩
theorem NK {jz μ:bn} (h:jz.le μ) {s:Nat} (hd:∀b m,jz b=some m→b<s):jz.le (cut μ s):=fun b m hb=>dE.2 ⟨hd b m hb,h b m hb⟩
theorem bh.NL (H:bh E base B μ h w) {o:fi} (jd:∀cs f cA aQ,o= .cells cs f cA aQ→f=h.size):bh E base B μ (h.push o) w:=by
 refine⟨fun b m hb=>?_,fun c hc=>?_,fun c m hc=>?_,H.own,fun b1 b2 m1 m2 oB rY hr bc Dn=>?_,fun c m r hc hr=>?_,H.dc,H.low,?_,fun b cs f cA aQ hb=>?_,fun c m cs aQ hc hg=>?_⟩
 ·have:=H.gh b m hb;simp only[ab.size_push];omega
 ·simp only[ab.size_push]at hc;rw[ab.aq,if_neg om];exact H.high c om
 ·have h1:=H.gh c m hc;obtain⟨p,p',k1,k2,k3⟩:=H.obj c m hc;exact⟨p,p',by rw[ab.aq,if_neg om];exact k1,k2,k3.mono μ.le_refl (by rw[ew H.wf o h1];exact id)⟩
 ·have h1:=H.gh _ _ oB;have k1:=H.gh _ _ rY;obtain⟨r,q1,q2,q3⟩:=H.alias b1 b2 m1 m2 oB rY hr bc Dn;exact⟨r,by rw[jH H.wf o h1];exact q1,by rw[jH H.wf o k1];exact q2,by rw[nA o h1,nA o k1];exact q3⟩
 ·rw[jH H.wf o (H.gh _ _ hc)]at hr;exact H.dr c m r hc hr
 ·have:=H.l5;simp only[ab.size_push];omega
 ·rw[ab.aq]at hb;by_cases e:b=h.size
  ·rw[if_pos e,Option.some.injEq]at hb;have:=jd _ _ _ _ hb;omega
  ·rw[if_neg e]at hb;exact H.wf _ _ _ _ _ hb
 ·have:=H.gh c m hc;rw[ab.aq,if_neg om]at hg;exact H.root c m cs aQ hc hg
theorem bh.IU (H:bh E base B μ h w) {b:Nat} {o:fi} {o':Obj} {m:MT} (hb:b<h.size) (hg:h.get b=some o) (hn:μ b=none) (bt:base≤b) (hB:B≤m.r) (hw:w.heap[m.r]? =some o')
 (xn:∀c mc,μ c=some mc→mc.r≠m.r) (jd:∀cs f cA aQ,o= .cells cs f cA aQ→f=b∧b≤cA) (Y4:∀cs aQ,o= .cells cs b b aQ→m.s=0) (ho:iX (kN μ b m) h base b m o o'):bh E base B (kN μ b m) h w:=by
 have hle:μ.le (kN μ b m):=gA hn;have lr:∀{c:Nat} {mc:MT},kN μ b m c=some mc→(c=b∧mc=m)∨(c≠b∧μ c=some mc):=by
  intro c mc hc;by_cases e:c=b
  ·subst e;rw[bN]at hc;cases hc;exact .inl ⟨rfl,rfl⟩
  ·rw[o5 _ _ e]at hc;exact .inr ⟨e,hc⟩
 refine⟨fun c mc hc=>?_,H.high,fun c mc hc=>?_,fun c mc hc hcb=>?_,fun b1 b2 m1 m2 oB rY hr bc Dn=>?_,fun c mc r hc hr=>?_,fun g VY=>?_,H.low,H.l5,H.wf,fun c mc cs aQ hc sy=>?_⟩
 ·rcases lr hc with⟨rfl,_⟩|⟨_,h2⟩
  ·exact hb
  ·exact H.gh _ _ h2
 ·rcases lr hc with⟨rfl,rfl⟩|⟨_,h2⟩
  ·exact⟨o,o',hg,hw,ho⟩
  ·obtain⟨p,p',k1,k2,k3⟩:=H.obj c mc h2;exact⟨p,p',k1,k2,k3.mono hle id⟩
 ·rcases lr hc with⟨rfl,rfl⟩|⟨_,h2⟩
  ·exact hB
  ·exact H.own c mc h2 hcb
 ·rcases lr oB with⟨rfl,rfl⟩|⟨_,h2⟩<;>rcases lr rY with⟨rfl,rfl⟩|⟨_,k2⟩
  ·exact absurd rfl bc
  ·exact absurd hr.symm (xn _ _ k2)
  ·exact absurd hr (xn _ _ h2)
  ·exact H.alias b1 b2 m1 m2 h2 k2 hr bc Dn
 ·rcases lr hc with⟨rfl,rfl⟩|⟨_,h2⟩
  ·obtain⟨cs,t,th,h1⟩:=dP hr;obtain⟨c0,h2⟩:=bO hr;rw[hg,Option.some.injEq]at h1;obtain⟨e1,e2⟩:=jd _ _ _ _ h1;rw[e1,hg,h1,Option.some.injEq,fi.cells.injEq]at h2;exact⟨om,om,mc,by rw[e1,bN]⟩
  ·obtain⟨q1,q2,m',q3⟩:=H.dr c mc r h2 hr;exact⟨q1,q2,m',hle _ _ q3⟩
 ·obtain⟨mc,q1,q2⟩:=H.dc g VY;exact⟨mc,hle _ _ q1,q2⟩
 ·rcases lr hc with⟨rfl,rfl⟩|⟨_,h2⟩
  ·rw[hg,Option.some.injEq]at sy;exact Y4 cs aQ sy
  ·exact H.root c mc cs aQ h2 sy
theorem IV {a b:Value} (h:jG a b=true):a=b:=by
 unfold jG at h;split at h
 ·simpa using h
 ·simp only[Bool.and_eq_true,beq_iff_eq]at h;rw[h.1,h.2]
 ·simp only[beq_iff_eq]at h;exact congrArg _ (ByteArray.ext (Array.ext' h))
 ·simp only[beq_iff_eq]at h;rw[h]
 ·simp only[Bool.and_eq_true,beq_iff_eq,beq_iff]at h;rw[h.1.1,h.1.2,h.2]
 ·simp only[beq_iff_eq]at h;rw[h]
 ·simp only[beq_iff_eq]at h;rw[h]
 ·rfl
 ·rfl
 ·simp only[Bool.and_eq_true,beq_iff_eq,beq_iff]at h;rw[h.1.1,h.1.2,h.2]
 ·simp only[Bool.and_eq_true,beq_iff]at h;obtain⟨⟨⟨⟨h0,h1⟩,h2⟩,h3⟩,h4⟩:=h;rw[h0,Array.eq_empty_of_size_eq_zero h1,Array.eq_empty_of_size_eq_zero h2,Array.eq_empty_of_size_eq_zero h3,Array.eq_empty_of_size_eq_zero h4]
 ·cases h
theorem pY:∀{a b:List Value},gu a b=true→a=b
 |[],[],_=>rfl
 |x::a,y::b,h=>by
  simp only[gu,Bool.and_eq_true]at h;rw[IV h.1,pY h.2]
 |[],_::_,h=>by simp[gu]at h
 |_::_,[],h=>by simp[gu]at h
theorem NM {a b:Value} (h:Dm a b=true):a=b:=by
 unfold Dm at h;split at h
 ·rw[Array.ext' (pY h)]
 ·exact IV h
theorem B6:∀{a b:List MapEntry},wR a b=true→a=b
 |[],[],_=>rfl
 |x::a,y::b,h=>by
  simp only[wR,Bool.and_eq_true,beq_iff]at h;obtain⟨⟨⟨h1,h2⟩,h3⟩,h4⟩:=h;rw[B6 h4];obtain⟨k,v,n⟩:=x;obtain⟨k',v',n'⟩:=y;simp only at h1 h2 h3;rw[NM h1,NM h2,h3]
 |[],_::_,h=>by simp[wR]at h
 |_::_,[],h=>by simp[wR]at h
theorem GP {h h':ab} {q:RQ} (hs:fE h h' q=true) (hb:q.dw<h.size):q.run h'=q.run h:=by
 unfold fE at hs;rw[Bool.or_eq_true]at hs;rcases hs with hs|hs;rotate_left
 ·have:h=h':=of_decide_eq_true (inst:=Classical.propDecidable _) hs;rw[this]
 unfold lC at hs;rw[aS.2 hb]at hs;cases q with
 |cells agg b o n=>
  simp only[cond_true]at hs;simp only[RQ.run];split at hs
  ·rename_i l l' h1 h2;rw[h1,h2,pY hs]
  ·cases hs
 |look r kd k z ok=>
  simp only[cond_true]at hs;simp only[RQ.run];split at hs
  ·rename_i l l' h1 h2;rw[h1,h2];simp only[Option.bind_some];rw[B6 hs]
  ·cases hs
 |len r=>
  simp only[cond_true]at hs;simp only[RQ.run];split at hs
  ·rename_i l l' h1 h2;rw[h1,h2];simp only[Option.bind_some];rw[B6 hs]
  ·cases hs
theorem NN {h:ab} {q:RQ} {o:fi} (hs:qW h q=true) (hb:q.dw<h.size):q.run (h.push o)=q.run h:=by
 unfold qW at hs;rw[aS.2 hb]at hs;simp only[cond_true]at hs;have hg:(h.push o).get q.dw=h.get q.dw:=by rw[ab.aq,if_neg om]
 cases q with
 |cells agg b o' n=>
  simp only[RQ.dw]at hs hb hg;have hf:(h.push o).dr b=h.dr b:=by
   unfold ab.dr;rw[hg];split
   ·rename_i cs f cA aQ he;rw[he]at hs;simp only[aS]at hs;rw[ab.aq,if_neg om]
   ·rfl
  simp only[RQ.run,ae,ab.rd,hf,ab.cellsOf,hg]
 |look r kd k z ok=>
  simp only[RQ.dw]at hg;simp only[RQ.run,eR,hg]
 |len r=>
  simp only[RQ.dw]at hg;simp only[RQ.run,eR,hg]
end
end Go.M
