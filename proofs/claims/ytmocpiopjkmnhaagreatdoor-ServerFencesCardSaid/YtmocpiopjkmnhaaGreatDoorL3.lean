/-
  Part 3 of the library that the proof leans on.
-/
import Derived.Test.YtmocpiopjkmnhaaGreatDoorL2
import Derived.Lib.ConvBytes
import Derived.Laws.BytesString
import Derived.RangeFuncLeaves
import Derived.LoopNIn
import Derived.RangeFuncCalls
import Derived.OrdersIn
namespace Go.M
open Go
section
variable {P:Program} {E:Env} {μ:Emb} {f:AF} {a:Act} {base B:Nat} {h:AHeap} {w:World}
theorem u8s_some:∀{l:List Value} {ns:List Int},u8s l=some ns→l=ns.map (Value.int .u8)
 |[],ns,h=>by simp[u8s]at h;subst h;rfl
 |v::l,ns,h=>by
  cases v<;>try(simp[u8s]at h;done)
  rename_i k n
  cases k<;>try(simp[u8s]at h;done)
  simp only[u8s,Option.bind_eq_some_iff,Option.some.injEq]at h
  obtain⟨r,h1,rfl⟩:=h
  rw[u8s_some h1];rfl
theorem strOf_fold (ns:List Int):ns.foldl (fun r n=>r.push (UInt8.ofNat n.toNat)) ByteArray.empty=strOf ns:=by
 have key:∀(ns:List Int) (s:ByteArray),ns.foldl (fun r n=>r.push (UInt8.ofNat n.toNat)) s=⟨s.data++(ns.map fun n=>UInt8.ofNat n.toNat).toArray⟩:=by
  intro ns
  induction ns with
  |nil=>intro s;simp
  |cons n ns ih=>
   intro s
   rw[List.foldl_cons,ih]
   simp[ByteArray.push]
 rw[key]
 unfold strOf
 simp[ByteArray.empty,ByteArray.emptyWithCapacity]
 try rfl
theorem VRels.scalars {μ:Emb} {l l':List Value} (h:VRels μ l l'):l.all scalar=true→l=l':=by
 induction h with
 |nil=>intro _;rfl
 |cons h _ ih=>
  intro hs
  simp only[List.all_cons,Bool.and_eq_true]at hs
  rw[h.inv_scalar hs.1,ih hs.2]
theorem isU8_eq {d:TypeDesc} (h:isU8 d=true):d= .int .u8:=by
 unfold isU8 at h
 split at h
 ·rfl
 ·cases h
theorem Step.frz {w':World} (H:HRel E base B μ h w) {b:Nat} {m:MT} (hb:μ b=some m) (hbase:base≤b) {c:Array Value} {e:TypeId} {fr fr':Nat×Nat} (hrow:w.heap[m.r]? =some (.cells c e fr)) (hf:NoFr fr' c.size) (hu:Upd w m.r (.cells c e fr') w'):Step E base B μ h w μ h w':=by
 refine⟨⟨H.dom,H.high,fun b' m' hb'=>?_,H.own,H.alias,H.fam,H.glob,by rw[hu.size];exact H.low,H.bsz,H.wf,H.root⟩,⟨hu.tape,hu.os,hu.output,by rw[hu.size];exact Nat.le_refl _,fun r hr hk=>?_⟩,μ.le_refl,(fun c mc h0 hc=>by rw[h0]at hc;cases hc),fun _ _ _=>rfl,Nat.le_refl _⟩
 ·obtain⟨o,o',k1,k2,k3⟩:=H.obj b' m' hb'
  by_cases er:m'.r=m.r
  ·rw[er,hrow]at k2
   cases k2
   refine⟨o,.cells c e fr',k1,by rw[er,hu.get,if_pos rfl],?_⟩
   cases k3 with
   |cells hn hl hf' hc=>exact .cells hn hl (fun _=>by rw[←hn];exact hf) hc
   |bag hp hs hc hn=>exact .bag hp hs hc hn
  ·exact⟨o,o',k1,by rw[hu.get,if_neg er];exact k2,k3⟩
 ·rw[hu.get,if_neg]
  intro e
  have:=hk b m hb e.symm
  omega
theorem run_mark (w:World) {r:Nat} {off:Nat} {c:Array Value} {e:TypeId} {fr:Nat×Nat} (hrow:w.heap[r]? =some (.cells c e fr)) (u8 src:TypeId) (hs:P.underlying src=some (.slice u8)) (he:P.underlying u8=some (.int .u8)) (len cap:Nat):
 ∃w',(convert src src (.slice (some ⟨r,off,none⟩) len cap)).run P w= .ok (.slice (some ⟨r,off,none⟩) len cap) w'∧Upd w r (.cells c e (if fr.1==fr.2 then(c.size,c.size+1)else(min fr.1 c.size,max fr.2 (c.size+1)))) w':=by
 have hsh:w.shape? r=some (e,c.size):=by simp[World.shape?,hrow]
 refine⟨w.freeze ⟨r,c.size,none⟩ 1,?_,?_⟩
 ·simp[convert,run_underlying hs,run_underlying he,markStringish,hsh]
 ·have hlt:r<w.heap.size:=(Array.getElem?_eq_some_iff.1 hrow).1
  refine⟨by simp[World.freeze],by simp[World.freeze],by simp[World.freeze],by simp[World.freeze],fun k=>?_⟩
  by_cases ek:k=r
  ·subst ek
   rw[if_pos rfl]
   simp[World.freeze,Array.getElem?_modify,hrow]
  ·rw[if_neg ek]
   simp[World.freeze,Array.getElem?_modify,Ne.symm ek]
theorem conv_sim (hE:EnvOk P E) (H:HRel E base B μ h w) {s d:TypeId} {x x' v:Value} {h':AHeap} (ha:aconvE E base h s d x=some (v,h')) (hx:VRel μ x x'):EffSim P E base B μ h w (convert s d x') v h':=by
 unfold aconvE at ha
 simp only[Option.bind_eq_some_iff]at ha
 obtain⟨sd,hs,dd,hd,ha⟩:=ha
 split at ha
 ·rename_i e str
  simp only[Option.bind_eq_some_iff,grd_some,Option.some.injEq]at ha
  obtain⟨ed,he,hu,ha⟩:=ha
  cases isU8_eq hu
  cases hx.inv_scalar rfl
  have hrun:=Lib.run_convert_string_bytes (P:=P) w s d e str (hE.desc s _ hs) (hE.desc d _ hd) (hE.desc e _ he)
  have hsz:(Lib.bytesCells w e str).size=grownCap w str.size 0 e:=by
   have:str.size≤grownCap w str.size 0 e:=by simp[grownCap,Question.cut]
   simp[Lib.bytesCells]
   have e:str.data.size=str.size:=rfl
   omega
  have hle:str.size≤grownCap w str.size 0 e:=by simp[grownCap,Question.cut]
  let N:=grownCap w str.size 0 e
  have hal:Alc w (.cells (Lib.bytesCells w e str) e (N,N+1)) (Lib.bytesWorld w e str):=by
   refine⟨by simp[Lib.bytesWorld,World.freeze,World.alloc,World.drew,-World.alloc_eq,-World.drew_eq],by simp[Lib.bytesWorld,World.freeze,World.alloc,World.drew,-World.alloc_eq,-World.drew_eq],by simp[Lib.bytesWorld,World.freeze,World.alloc,World.drew,-World.alloc_eq,-World.drew_eq],Lib.bytesWorld_size w e str,fun k=>?_⟩
   by_cases ek:k=w.heap.size
   ·subst ek
    rw[if_pos rfl,Lib.bytesWorld_at_new,hsz]
   ·rw[if_neg ek]
    rcases Nat.lt_or_ge k w.heap.size with h1|h1
    ·exact Lib.bytesWorld_at_old w e str k h1
    ·rw[Array.getElem?_eq_none h1,Array.getElem?_eq_none (by rw[Lib.bytesWorld_size];omega)]
  have hcells:∀(i:Nat) u,(strBytes str)[i]? =some u→∃u',(Lib.bytesCells w e str)[i]? =some u'∧∀μ',VRel μ' u u':=by
   intro i u hu
   have hi:=(List.getElem?_eq_some_iff.1 hu).1
   refine⟨u,?_,fun μ'=>?_⟩
   ·unfold Lib.bytesCells
    rw[Array.getElem?_append_left (by simpa[strBytes]using hi),←Array.getElem?_toList,Array.toList_map]
    exact hu
   ·simp only[strBytes,List.getElem?_map,Option.map_eq_some_iff]at hu
    obtain⟨b,_,rfl⟩:=hu
    exact .int _ _ _
  have st:=Step.alloc H hal N (o:=.cells (strBytes str) h.size h.size 0) (fun cs f tip thr hh=>by cases hh;exact⟨rfl,rfl⟩) (by
   refine .cells hsz (by simp[strBytes];exact hle) (fun _=>noFrN N) fun _ i u hu=>?_
   obtain⟨u',q1,q2⟩:=hcells i u hu
   exact⟨u',by simpa using q1,q2 _⟩)
  have e1:fresh h (strBytes str) 1 str.size=(.slice (some ⟨h.size,0,some 1⟩) str.size (str.size+1),h.push (.cells (strBytes str) h.size h.size 0)):=rfl
  rw[e1]at ha
  obtain⟨rfl,rfl⟩:=Prod.mk.inj ha
  refine⟨_,_,_,hrun,?_,st⟩
  have:=VRel.slice (o:=0) (z:=1) (len:=str.size) (cap:=str.size+1) (cap':=N) (upd_self μ h.size ⟨w.heap.size,0,N⟩) (by omega) hle (fun h=>by omega) (by simp)
  simpa using this
 ·rename_i e b o z len cap
  simp only[Option.bind_eq_some_iff,grd_some,Bool.and_eq_true,beq_iff,ble_iff,blt_iff]at ha
  obtain⟨ed,he,⟨⟨⟨⟨hu,hsd⟩,hbase⟩,hrd⟩,hl0⟩,ha⟩:=ha
  cases isU8_eq hu
  subst hsd
  split at ha
  ·rename_i e2
   rw[hs]at hd;cases hd
   simp only[Option.some.injEq,Prod.mk.injEq]at ha
   obtain⟨rfl,rfl⟩:=ha
   obtain⟨cs,hcs⟩:=Option.isSome_iff_exists.1 hrd
   generalize hq:Value.slice (some ⟨b,o,some z⟩) len cap=q at hx
   cases hx with
   |slice hb k1 k2 k3 k4=>
    cases hq
    obtain⟨c,e',fr,q1,q2,q3,q4,q5⟩:=H.read hb hcs
    obtain⟨w',r1,r2⟩:=run_mark (P:=P) w q1 e s (hE.desc s _ hs) (hE.desc e _ he) _ _
    refine⟨μ,_,w',r1,.slice hb k1 k2 k3 k4,Step.frz H hb hbase q1 ?_ r2⟩
    have:=q4 hbase
    rw[←q2]at this
    exact this.mark
   |slice0 hb=>
    cases hq
    omega
   |lit hh=>subst hq;simp[plain1]at hh
   |_=>cases hq
  ·cases ha
 ·rename_i a len cap
  split at ha
  ·rename_i e
   simp only[Option.bind_eq_some_iff,grd_some]at ha
   obtain⟨ed,he,hu,ha⟩:=ha
   cases isU8_eq hu
   have conv:=fun(a':Option Addr) (c' l':Nat)=>run_convert_bytes_string (P:=P) w s d e a' l' c' (hE.desc s _ hs) (hE.desc e _ he) (hE.desc d _ hd)
   have fin:∀(ns:List Int) (ad:Addr) (l' c':Nat),x'= .slice (some ad) l' c'→(loadCells ad l').run P w= .ok (ns.map (Value.int .u8)).toArray w→EffSim P E base B μ h w (convert s d x') (.string (strOf ns)) h:=by
    intro ns ad l' c' ex hld
    refine⟨μ,_,w,by rw[ex,conv,run_bytesToString w ad l' c' ns hld,strOf_fold],.string μ _,.refl H⟩
   rw[bif_eq]at ha
   split at ha
   ·rename_i h0
    rw[beq_iff]at h0;subst h0
    simp only[Option.some.injEq,Prod.mk.injEq]at ha
    obtain⟨rfl,rfl⟩:=ha
    generalize hq:Value.slice a 0 cap=q at hx
    cases hx with
    |slice hb k1 k2 k3 k4=>cases hq;exact fin [] _ _ _ rfl (by simp[loadCells,loadCellsFrom])
    |slice0 hb=>cases hq;exact fin [] _ _ _ rfl (by simp[loadCells,loadCellsFrom])
    |lit hh=>
     subst hq
     cases a with
     |none=>exact⟨μ,_,w,by rw[conv];simp[Conv.bytesToString];rfl,.string μ _,.refl H⟩
     |some a=>simp[plain1]at hh
    |_=>cases hq
   simp only[Option.bind_eq_some_iff,Option.some.injEq,Prod.mk.injEq]at ha
   obtain⟨l,hl,ns,hns,rfl,rfl⟩:=ha
   have el:=u8s_some hns
   unfold firstV at hl
   split at hl
   ·rename_i b o z len1 cap1 ex
    cases ex
    generalize hq:Value.slice (some ⟨b,o,some z⟩) len cap=q at hx
    cases hx with
    |slice hb k1 k2 k3 k4=>
     rename_i m
     cases hq
     obtain⟨l',r1,r2⟩:=H.readL hb hl
     have hln:=(H.readCells hb hl).1
     have e2:l'=ns.map (Value.int .u8):=by
      have:=VRels.scalars r1 (by
       rw[el,List.all_eq_true]
       intro v hv
       obtain⟨n,_,rfl⟩:=List.mem_map.1 hv
       rfl)
      rw[←el,this]
     refine fin ns _ _ _ rfl ?_
     simp only[loadCells]
     have hl2:l'.length=len:=by rw[←r1.length,hln];omega
     rw[run_loadCells len 0 #[] l' hl2 (fun k v hv=>by rw[addr_add];have:=r2 k v hv;simpa[World.cell?]using this)]
     simp[e2]
    |slice0 hb=>
     cases hq
     have:=readCells_nil (by simpa using hl)
     subst this
     simp[u8s]at hns;subst hns
     exact fin [] _ _ _ rfl (by simp[loadCells,loadCellsFrom])
    |lit hh=>subst hq;simp[plain1]at hh
    |_=>cases hq
   ·rename_i len1 cap1 ex
    cases ex
    simp only[Option.some.injEq]at hl;subst hl
    simp[u8s]at hns;subst hns
    cases hx with
    |lit hh=>
     refine⟨μ,_,w,by rw[conv];simp[Conv.bytesToString];rfl,.string μ _,.refl H⟩
   ·rename_i ex;cases ex
   ·cases hl
  ·cases ha
 ·cases ha
end
end Go.M
namespace Go.M
open Go
section
variable {P:Program} {E:Env} {μ:Emb} {f:AF} {a:Act} {base B:Nat} {h:AHeap} {w:World}
theorem bytes_of_beq {a b:ByteArray} (h:(a==b)=true):a=b:=by
 rw[beq_toListBytes,ByteArray.toList_eq,ByteArray.toList_eq]at h
 have:=eq_of_beq h
 obtain⟨⟨x⟩⟩:=a
 obtain⟨⟨y⟩⟩:=b
 simp at this
 rw[this]
def ValOr (nx:Next) (v':Value):Prop:=nx= .value v'∨(nx= .skip∧v'=undef)
def IterAt (E:Env) (base B:Nat) (μ:Emb) (h:AHeap) (w:World):Prop:=HRel E base B μ h w
set_option maxHeartbeats 1000000 in
set_option maxHeartbeats 1000000 in
theorem aeff_val (hE:EnvOk P E) (hf:FRel μ f a.tmps) (H:HRel E base B μ h w) {o:Oper} {v:Value} {h':AHeap} (ha:aeff E base f o h=some (.val v,h')):
 ∃μ' nx v' w',(execOp a.eval o).run P w= .ok nx w'∧ValOr nx v'∧VRel μ' v v'∧Step E base B μ h w μ' h' w':=by
 have hg:GlobOk E μ:=H.glob
 obtain⟨dst,op,type,pos,after,guard⟩:=o
 cases op
 case store t x y=>
  simp only[aeff,Option.bind_eq_some_iff,grd_some,Bool.and_eq_true,beq_iff,Option.some.injEq,Prod.mk.injEq,ARes.val.injEq]at ha
  obtain⟨av,h1,v1,h2,n,h3,p,h4,⟨h5,hone⟩,cs,hrd,cs',hset,h6,hwr,rfl,rfl⟩:=ha
  have e:=asPtr_some h4;subst e
  obtain⟨m,hb,ex⟩:=(ev_rel hg hf h1).inv_ptr
  have hv:=ev_rel hg hf h2
  obtain⟨w',q1,q2⟩:=store_sim (P:=P) H hb hrd hset hwr hv.cells hone
  refine⟨μ,.skip,undef,w',?_,.inr ⟨rfl,rfl⟩,.undef μ,q2⟩
  have hsz:(a.eval y).cells.size=n:=by rw[←hv.cells_size];exact h5
  simp only[execOp,Instr.storeAt,Sem.run_bind,ex,Instr.sureAddr,Sem.run_pure,Result.andThen_ok,storeVar,g_size hE h3 w]
  rw[if_neg (by simpa using hsz)]
  simp only[q1,Result.andThen_ok]
 case mapUpdate t mm kk x|insert t mm kk x=>
  simp only[aeff,Option.bind_eq_some_iff,Option.some.injEq,Prod.mk.injEq,ARes.val.injEq]at ha
  obtain⟨mv,h1,k,h2,v1,h3,h4,h5,rfl,rfl⟩:=ha
  unfold amapUpdate at h5
  simp only[Option.bind_eq_some_iff]at h5
  obtain⟨d,hd,h5⟩:=h5
  split at h5
  ·rename_i kt et r
   simp only[Option.bind_eq_some_iff,grd_some,Bool.and_eq_true,ble_iff]at h5
   obtain⟨kd,hkd,⟨⟨hbase,hst⟩,hks⟩,h5⟩:=h5
   split at h5
   ·rename_i es clock hgm
    obtain⟨m,hb,ex⟩:=(ev_rel hg hf h1).inv_map
    have ek:=(ev_rel hg hf h2).inv_scalar hks
    have hv:=ev_rel hg hf h3
    obtain⟨o1,o2,k1,k2,k3⟩:=H.obj r m hb
    rw[hgm]at k1;cases k1
    cases k3 with
    |map hs=>
     rename_i es'
     simp only[Option.bind_eq_some_iff]at h5
     obtain⟨fr,hfr,h5⟩:=h5
     obtain⟨fr',q1,q2,q3⟩:=findNow_rel hs hfr
     have hfk:(Instr.findKey kt k es'.toList).run P w= .ok fr' w:=by
      simp only[Instr.findKey,Sem.run_bind,g_under hE hkd w,Result.andThen_ok,q1,Sem.run_pure]
     have hck:=g_checkKey (P:=P) hE hkd hst false 9999 k w
     have hgo:=run_getObj_map (P:=P) k2 (fun _ _ _=>by simp)
     have hso:=fun o=>run_setObj' (P:=P) (o:=o) k2 (fun _ _ _=>by simp)
     have hkr:VRel μ k k:=.of_scalar μ hks
     cases fr with
     |none=>
      have e:=q2 rfl;subst e
      simp only[Option.some.injEq]at h5
      subst h5
      have st:=Step.put (o:=.map (es++[{key:=k,val:=v1,born:=clock}]) (clock+1)) H hb hbase hgm rfl rfl (Upd.set w m.r (.map (es'.push {key:=k,val:=a.eval x,born:=clock}) (clock+1)) (H.lt hb)) (.map (by
       simpa using hs.append (ERels.cons (e:={key:=k,val:=v1,born:=clock}) (e':={key:=k,val:=a.eval x,born:=clock}) hkr hv rfl .nil)))
      refine⟨μ,.skip,undef,_,?_,.inr ⟨rfl,rfl⟩,.undef μ,st⟩
      simp only[execOp,Instr.mapUpdate,Sem.run_bind,g_under hE hd w,Result.andThen_ok,ex,ek,hgo,hck,hfk,hso]
      rfl
     |some jv=>
      obtain⟨v',e,hr⟩:=q3 jv.1 jv.2 rfl
      subst e
      simp only[Option.some.injEq]at h5
      subst h5
      have hsb:Instr.sameBits 10000 (((es'[jv.1]?).map (·.key)).getD k) k=true:=by
       have hh:∀{es:List MapEntry} {i j:Nat} {v:Value},Instr.findNow kd k es i=some (some (j,v))→∃e,es[j - i]? =some e∧e.key=k∧i≤j:=by
        intro es
        induction es with
        |nil=>intro i j v hq;simp[Instr.findNow]at hq
        |cons e0 es0 ih=>
         intro i j v hq
         simp only[Instr.findNow]at hq
         split at hq
         ·rename_i hsn
          simp only[Option.some.injEq,Prod.mk.injEq]at hq
          obtain⟨rfl,_⟩:=hq
          refine⟨e0,by simp,?_,Nat.le_refl _⟩
          unfold Instr.sameNow at hsn
          split at hsn
          ·rename_i z1
           split at hsn
           ·rename_i z2;subst z2;simp only[Option.some.injEq,beq_iff_eq]at hsn;rw[z1,hsn]
           ·cases hsn
          ·rename_i z1;simp only[Option.some.injEq]at hsn;rw[z1,bytes_of_beq hsn]
          ·rename_i z1;simp only[Option.some.injEq,beq_iff_eq]at hsn;rw[z1,hsn]
          ·cases hsn
         ·obtain⟨e1,p1,p2,p3⟩:=ih hq
          refine⟨e1,?_,p2,by omega⟩
          have:j - i=(j - (i+1))+1:=by omega
          rw[this];simpa using p1
         ·cases hq
       obtain⟨e1,p1,p2,_⟩:=hh q1
       have p1':es'[jv.1]? =some e1:=by simpa using p1
       rw[p1']
       simp only[Option.map_some,Option.getD_some,p2]
       cases k<;>simp[scalar]at hks<;>first|(simp[Instr.sameBits];done)|(simp only[Instr.sameBits];rw[beq_toListBytes];simp)
      have st:=Step.put (o:=.map (es.modify jv.1 fun e=>{e with key:=k,val:=v1}) clock) H hb hbase hgm rfl rfl (Upd.set w m.r (.map (es'.modify jv.1 fun e=>{e with key:=k,val:=a.eval x}) clock) (H.lt hb)) (.map (by
       have:=hs.modify (g:=fun e=>{e with key:=k,val:=v1}) (g':=fun e=>{e with key:=k,val:=a.eval x}) (fun e e' _ _ hb=>⟨hkr,hv,hb⟩) jv.1
       simpa using this))
      refine⟨μ,.skip,undef,_,?_,.inr ⟨rfl,rfl⟩,.undef μ,st⟩
      simp only[execOp,Instr.mapUpdate,Sem.run_bind,g_under hE hd w,Result.andThen_ok,ex,ek,hgo,hck,hfk]
      unfold Instr.keyThatStays
      rw[hsb]
      simp only[if_true,Sem.run_pure,Result.andThen_ok,hso]
   ·cases h5
  ·cases h5
 case range t x=>
  simp only[aeff,Option.bind_eq_some_iff]at ha
  obtain⟨d,hd,v1,h1,ha⟩:=ha
  split at ha
  ·rename_i kt et r
   split at ha
   ·rename_i es clock hgm
    simp only[Option.some.injEq,Prod.mk.injEq,ARes.val.injEq]at ha
    obtain⟨rfl,rfl⟩:=ha
    obtain⟨m,hb,ex⟩:=(ev_rel hg hf h1).inv_map
    obtain⟨o1,o2,k1,k2,k3⟩:=H.obj r m hb
    rw[hgm]at k1;cases k1
    cases k3 with
    |map hs=>
     have hgo:=run_getObj_map (P:=P) k2 (fun _ _ _=>by simp)
     have hle:μ.le (upd μ h.size ⟨w.heap.size,0,0⟩):=upd_le H.fresh
     have st:=Step.alloc (o:=.miter (some r) clock [] clock) H (Alc.mk' w (.mapIter (some m.r) clock #[] clock)) 0 (fun _ _ _ _ hh=>by cases hh) (by
      have:=ORel.miter (μ:=upd μ h.size ⟨w.heap.size,0,0⟩) (h:=h.push (.miter (some r) clock [] clock)) (base:=base) (b:=h.size) (m:=⟨w.heap.size,0,0⟩) (since:=clock) (last:=clock) (seen:=[]) (hle _ _ hb) rfl
      simpa using this)
     refine⟨_,_,.pointer (some ⟨w.heap.size,0,none⟩),_,?_,.inl rfl,?_,st⟩
     ·simp only[execOp,Instr.range,Sem.run_bind,g_under hE hd w,Result.andThen_ok,ex,hgo,Sem.run_pure,run_newObj]
     ·have:=VRel.ptr (o:=0) (upd_self μ h.size ⟨w.heap.size,0,0⟩);simpa using this
   ·cases ha
  ·cases ha
 case convert sT d x=>
  simp only[aeff,Option.bind_eq_some_iff,Option.some.injEq,Prod.mk.injEq,ARes.val.injEq]at ha
  obtain⟨v1,h1,⟨v2,h2'⟩,h3,rfl,rfl⟩:=ha
  obtain⟨μ',v',w',q1,q2,q3⟩:=conv_sim (P:=P) hE H h3 (ev_rel hg hf h1)
  refine⟨μ',.value v',v',w',?_,.inl rfl,q2,q3⟩
  simp only[execOp,Sem.run_bind,q1,Result.andThen_ok,Sem.run_pure]
 case next it isStr=>
  simp only[aeff,Option.bind_eq_some_iff,Option.some.injEq,Prod.mk.injEq,ARes.val.injEq]at ha
  obtain⟨v1,h1,r,h2,⟨v2,h2'⟩,h3,rfl,rfl⟩:=ha
  have e:=asIter_some h2;subst e
  obtain⟨m,hb,ex⟩:=(ev_rel hg hf h1).inv_ptr
  have hms:m.s=0:=by
   obtain⟨o1,o2,k1,k2,k3⟩:=H.obj r m hb
   unfold anext at h3
   simp only[grd_some]at h3
   cases k3 with
   |siter hs=>exact hs
   |miter0 hs=>exact hs
   |miter _ hs=>exact hs
   |_=>rw[k1]at h3;simp at h3
  obtain⟨μ',v',w',q1,q2,q3⟩:=next_sim (P:=P) H type h3 hb
  refine⟨μ',.value v',v',w',?_,.inl rfl,q2,q3⟩
  rw[hms]at ex
  simp only[execOp,Sem.run_bind,ex,q1,Result.andThen_ok,Sem.run_pure]
 case entry it=>
  simp only[aeff,Option.bind_eq_some_iff,Option.some.injEq,Prod.mk.injEq,ARes.val.injEq]at ha
  obtain⟨v1,h1,r,h2,v2,h3,rfl,rfl⟩:=ha
  have e:=asIter_some h2;subst e
  obtain⟨m,hb,ex⟩:=(ev_rel hg hf h1).inv_ptr
  have hms:m.s=0:=by
   obtain⟨o1,o2,k1,k2,k3⟩:=H.obj r m hb
   unfold aentry at h3
   cases k3 with
   |siter hs=>exact hs
   |miter0 hs=>exact hs
   |miter _ hs=>exact hs
   |_=>rw[k1]at h3;simp at h3
  obtain⟨v',q1,q2⟩:=entry_sim (P:=P) H h3 hb
  refine⟨μ,.value v',v',w,?_,.inl rfl,q1,.refl H⟩
  rw[hms]at ex
  simp only[execOp,Sem.run_bind,ex,q2,Result.andThen_ok,Sem.run_pure]
 case call c=>
  simp only[aeff,Option.bind_eq_some_iff]at ha
  obtain⟨args,h1,ha⟩:=ha
  have hr:=evs_rel hg hf h1
  split at ha
  ·rename_i b hcal
   simp only[Option.bind_eq_some_iff,Option.some.injEq,Prod.mk.injEq,ARes.val.injEq]at ha
   obtain⟨⟨v1,h1'⟩,h2,rfl,rfl⟩:=ha
   obtain⟨s,⟨μ',v',w',q1,q2,q3⟩,hs⟩:=builtE_sim hE H (ts:=c.argTypes) (args':=c.args.map a.eval) type h2 (by simpa using hr)
   refine⟨μ',.value v',v',w',?_,.inl rfl,q2,q3⟩
   simp only[execOp,resolve,hcal,Sem.run_bind,Sem.run_pure,Result.andThen_ok,invoke]
   rw[hs _]
   simp only[Sem.run_bind,q1,Result.andThen_ok,Sem.run_pure]
  ·simp only[Option.bind_eq_some_iff]at ha
   obtain⟨g,_,ha⟩:=ha
   split at ha<;>simp at ha
  ·cases ha
 all_goals(simp only[aeff]at ha;cases ha)
theorem aeff_enter (hE:EnvOk P E) (hf:FRel μ f a.tmps) (H:HRel E base B μ h w) {o:Oper} {g:FuncId} {args:List Value} {h':AHeap} (ha:aeff E base f o h=some (.enter g args,h')) (hfun:(E.func g).isSome=true):
 ∃args':Array Value,h'=h∧VRels μ args args'.toList∧(execOp a.eval o).run P w= .ok (.enter g args') w:=by
 have hg:GlobOk E μ:=H.glob
 obtain⟨dst,op,type,pos,after,guard⟩:=o
 cases op
 case call c=>
  simp only[aeff,Option.bind_eq_some_iff]at ha
  obtain⟨asv,h1,ha⟩:=ha
  have hr:=evs_rel hg hf h1
  split at ha
  ·simp only[Option.bind_eq_some_iff,Option.some.injEq,Prod.mk.injEq]at ha
   obtain⟨_,_,h2,_⟩:=ha;cases h2
  ·rename_i gx hcal
   simp only[Option.bind_eq_some_iff]at ha
   obtain⟨gv,h2,ha⟩:=ha
   split at ha
   ·rename_i gid first captured
    simp only[Option.some.injEq,Prod.mk.injEq,ARes.enter.injEq]at ha
    obtain⟨⟨rfl,rfl⟩,rfl⟩:=ha
    have hgr:=ev_rel hg hf h2
    generalize hq:a.eval gx=q at hgr
    cases hgr with
    |lit hh=>simp[plain1]at hh
    |func q1 q2 q3 q4=>
     rename_i first' captured'
     refine⟨first'++c.args.map a.eval++captured',rfl,?_,?_⟩
     ·simp only[Array.toList_append,Array.toList_map]
      exact((VRels.of_arr q1 q2).append hr).append (VRels.of_arr q3 q4)
     ·obtain⟨fn,hfn⟩:=Option.isSome_iff_exists.1 hfun
      obtain⟨f1,f2,f3⟩:=hE.func _ _ hfn
      have hb:fn.body.isNone=false:=by cases hx:fn.body<;>simp_all
      simp only[execOp,resolve,hcal,Sem.run_bind,Sem.run_pure,Result.andThen_ok,hq,Deferred.ofValue,invoke,callFunc,run_program,f1,f3,hb,Bool.false_eq_true,if_false]
   ·simp at ha
   ·cases ha
  ·cases ha
 all_goals(simp only[aeff]at ha;first|cases ha|(simp only[Option.bind_eq_some_iff,Option.some.injEq,Prod.mk.injEq,grd_some,reduceCtorEq,false_and,and_false,exists_false]at ha)|skip)
 case range t x=>
  obtain⟨_,_,_,_,ha⟩:=ha
  split at ha
  ·split at ha<;>simp at ha
  ·cases ha
theorem aeff_round (hf:FRel μ f a.tmps) (H:HRel E base B μ h w) {o:Oper} {l:Nat} {args:List Value} {h':AHeap} (ha:aeff E base f o h=some (.round l args,h')) {st:LoopState} {p:Option Code} {f0:AF} {ps:List Tmp} {asg body:Code}
 (hl:h.get l=some (.loop st p f0 ps asg body)) (hlen:ps.length=args.length):
 ∃(m:MT) (args':List Value) (lo:Loop),h'=h∧μ l=some m∧w.heap[m.r]? =some (.loop lo)∧VRels μ args args'∧
  (execOp a.eval o).run P w= .ok (.round m.r lo.fn ((ps.zip args').foldl (fun tmps (t,a)=>tmps.setIfInBounds t a) lo.tmps) asg body) w∧FRel μ f0 lo.tmps:=by
 have hg:GlobOk E μ:=H.glob
 obtain⟨dst,op,type,pos,after,guard⟩:=o
 cases op
 case call c=>
  simp only[aeff,Option.bind_eq_some_iff]at ha
  obtain⟨asv,h1,ha⟩:=ha
  have hr:=evs_rel hg hf h1
  split at ha
  ·simp only[Option.bind_eq_some_iff,Option.some.injEq,Prod.mk.injEq]at ha
   obtain⟨_,_,h2,_⟩:=ha;cases h2
  ·rename_i gx hcal
   simp only[Option.bind_eq_some_iff]at ha
   obtain⟨gv,h2,ha⟩:=ha
   split at ha
   ·simp at ha
   ·rename_i l0 first captured
    simp only[Option.some.injEq,Prod.mk.injEq,ARes.round.injEq]at ha
    obtain⟨⟨rfl,rfl⟩,rfl⟩:=ha
    have hgr:=ev_rel hg hf h2
    generalize hq:a.eval gx=q at hgr
    cases hgr with
    |lit hh=>simp[plain1]at hh
    |yield hb=>
     rename_i m
     obtain⟨o1,o2,k1,k2,k3⟩:=H.obj l0 m hb
     rw[hl]at k1;cases k1
     cases k3 with
     |loop hfr=>
      rename_i fn tmps d
      have hgo:=run_getObj_map (P:=P) k2 (fun _ _ _=>by simp)
      refine⟨m,c.args.toList.map a.eval,_,rfl,hb,k2,by simpa using hr,?_,hfr⟩
      have hl2:=hr.length
      have hsz:(c.args.map a.eval).size=ps.toArray.size:=by
       simp at hlen hl2 ⊢;omega
      simp only[execOp,resolve,hcal,Sem.run_bind,Sem.run_pure,Result.andThen_ok,hq,Deferred.ofValue,invoke,Instr.yield,Instr.getLoop,hgo]
      rw[if_neg (by simpa using hsz)]
      have ez:(ps.toArray.zip (#[]++c.args.map a.eval))=(ps.zip (c.args.toList.map a.eval)).toArray:=by
       apply Array.ext';simp
      simp only[ez,Sem.run_pure,List.foldl_toArray]
   ·cases ha
  ·cases ha
 all_goals(simp only[aeff]at ha;first|cases ha|(simp only[Option.bind_eq_some_iff,Option.some.injEq,Prod.mk.injEq,grd_some,reduceCtorEq,false_and,and_false,exists_false]at ha)|skip)
 case range t x=>
  obtain⟨_,_,_,_,ha⟩:=ha
  split at ha
  ·split at ha<;>simp at ha
  ·cases ha
end
end Go.M
namespace Go.M
open Go
structure Wide (F:Fence):Prop where
 fn:∀f,F.fn f
 depth:F.depth=none
 dead:F.alive=false
theorem Wide.inRound {F:Fence} (h:Wide F) (l:Nat):Wide (F.inRound l):=⟨h.fn,h.depth,h.dead⟩
theorem Wide.plain {F:Fence} (h:Wide F):Wide F.plain:=⟨h.fn,h.depth,h.dead⟩
theorem Wide.wide:Wide Fence.wide:=⟨fun _=>trivial,rfl,rfl⟩
theorem Wide.ok {F:Fence} (h:Wide F) (n:Nat):F.depth.isSome=true→1≤n:=by rw[h.depth];intro h;simp at h
def RetPost (E:Env) (base B:Nat) (μ:Emb) (h:AHeap) (w:World) (v:Value) (h':AHeap):Ending→World→Prop:=
 fun e w'=>∃v' μ',e= .returned v'∧VRel μ' v v'∧Step E base B μ h w μ' h' w'
def CallOk (P:Program) (E:Env) (base B:Nat) (cf:CallF):Prop:=
 ∀(μ:Emb) (h:AHeap) (w:World) (g:FuncId) (args:List Value) (args':Array Value) (v:Value) (h':AHeap),cf g args h=some (v,h')→VRels μ args args'.toList→HRel E base B μ h w→
  ∀(F:Fence) (n:Nat),Wide F→CallsIn F n P g args' w (RetPost E base B μ h w v h')
def RoundOk (P:Program) (E:Env) (base B:Nat) (rf:RoundF):Prop:=
 ∀(μ:Emb) (h:AHeap) (w:World) (l:Nat) (args:List Value) (v:Value) (h':AHeap) (m:MT) (f0:AF) (ps:List Tmp) (asg body:Code) (st:LoopState) (p:Option Code) (fn:FuncId) (tmps:Array Value),
  rf l args h=some (v,h')→h.get l=some (.loop st p f0 ps asg body)→μ l=some m→HRel E base B μ h w→FRel μ (AF.setAll (ps.zip args) f0) tmps→
  ∀(F:Fence) (n:Nat),Wide F→RoundIn F n P m.r fn tmps asg body w (RetPost E base B μ h w v h')
def CallFun (E:Env) (cf:CallF):Prop:=∀g args h r,cf g args h=some r→(E.func g).isSome=true
def RoundFun (rf:RoundF):Prop:=∀l args h r,rf l args h=some r→∃st p f0 ps asg body,h.get l=some (.loop st p f0 ps asg body)∧ps.length=args.length
section
variable {P:Program} {E:Env} {μ:Emb} {f:AF} {a:Act} {base B:Nat} {h:AHeap} {w:World} {cf:CallF} {rf:RoundF}
theorem setAll_rel {μ:Emb}:∀{ps:List Tmp} {args args':List Value} {f:AF} {tmps:Array Value},FRel μ f tmps→VRels μ args args'→FRel μ (AF.setAll (ps.zip args) f) ((ps.zip args').foldl (fun tmps (t,a)=>tmps.setIfInBounds t a) tmps)
 |[],args,args',f,tmps,hf,_=>by simpa[AF.setAll]using hf
 |p::ps,_,_,f,tmps,hf,.nil=>by simpa[AF.setAll]using hf
 |p::ps,_,_,f,tmps,hf,.cons hv ht=>by
  simp only[List.zip_cons_cons,AF.setAll,List.foldl_cons]
  exact setAll_rel (hf.set hv p) ht
theorem noDefer {o:Oper} {r:OpR} (h:runOp E base cf rf o f h=some r):∀c,o.op≠ .defer c:=by
 intro c hc
 unfold runOp at h
 simp only[apure,aread,aalloc,aeff,hc]at h
 cases h
theorem op_sim (hE:EnvOk P E) (hcf:CallOk P E base B cf) (hrf:RoundOk P E base B rf) (hcF:CallFun E cf) (hrF:RoundFun rf) {F:Fence} (hF:Wide F) {n:Nat} (hf:FRel μ f a.tmps) (H:HRel E base B μ h w) {o:Oper} {r:OpR} (hr:runOp E base cf rf o f h=some r)
 {next:Act→World→Prop} {Q:Exit→Act→World→Prop} (hn:∀μ' v' w',VRel μ' r.v v'→Step E base B μ h w μ' r.h w'→next (a.put o.dst v') w'):o.wpIn F n P a w next Q:=by
 have hg:GlobOk E μ:=H.glob
 refine⟨fun _ _=>hF.fn _,?_⟩
 rw[Oper.semAt_eq _ _ _ (noDefer hr)]
 unfold runOp at hr
 split at hr
 ·rename_i v hp
  simp only[Option.some.injEq]at hr;subst hr
  obtain⟨v',q1,q2⟩:=apure_sim hE hg hf hp
  rw[q2 w]
  exact hn μ v' w q1 (.refl H)
 ·split at hr
  ·rename_i q hq
   simp only[Option.bind_eq_some_iff,Option.some.injEq]at hr
   obtain⟨v,hv,rfl⟩:=hr
   obtain⟨v',q1,q2⟩:=aread_sim hE hf H hq hv
   rw[q2]
   exact hn μ v' w q1 (.refl H)
  ·split at hr
   ·rename_i md hd hal
    simp only[Option.some.injEq]at hr;subst hr
    obtain⟨o',k,hv,S⟩:=aalloc_sim hE hg hf hal
    rw[S.run w]
    have st:=Step.alloc (o:=md.obj h.size) H (Alc.mk' w o') k (fun cs f tip thr hh=>by cases md<;>simp[Made.obj]at hh;exact⟨hh.2.1.symm,hh.2.2.1.symm⟩) (S.obj _ _ _ _ _ (upd_le H.fresh))
    exact hn _ _ _ (S.val _ _ _ (upd_self _ _ _)) st
   ·split at hr
    ·rename_i v h' he
     simp only[Option.some.injEq]at hr;subst hr
     obtain⟨μ',nx,v',w',q1,q2,q3,q4⟩:=aeff_val hE hf H he
     rw[q1]
     rcases q2 with rfl |⟨rfl,rfl⟩
     ·exact hn μ' v' w' q3 q4
     ·exact hn μ' undef w' q3 q4
    ·rename_i g args h' he
     simp only[Option.bind_eq_some_iff,Option.some.injEq]at hr
     obtain⟨⟨v,h2⟩,hc,rfl⟩:=hr
     have hfun:=hcF _ _ _ _ hc
     obtain⟨args',e,q1,q2⟩:=aeff_enter hE hf H he hfun
     subst e
     rw[q2]
     refine⟨hF.ok n,(hcf μ h' w g args args' v h2 hc q1 H F (n - 1) hF).mono ?_⟩
     rintro e w' ⟨v',μ',rfl,k1,k2⟩
     exact hn μ' v' w' k1 k2
    ·rename_i l args h' he
     simp only[Option.bind_eq_some_iff,Option.some.injEq]at hr
     obtain⟨⟨v,h2⟩,hc,rfl⟩:=hr
     obtain⟨st,p,f0,ps,asg,body,hl,hlen⟩:=hrF _ _ _ _ hc
     have hh:h'=h:=by
      obtain⟨dst,op,type,pos,after,guard⟩:=o
      cases op<;>simp only[aeff]at he<;>first|cases he|skip
      all_goals simp only[Option.bind_eq_some_iff,Option.some.injEq,Prod.mk.injEq,grd_some,reduceCtorEq,false_and,and_false,exists_false]at he
      ·obtain⟨_,_,_,_,he⟩:=he
       split at he
       ·split at he<;>simp at he
       ·cases he
      ·obtain⟨_,_,he⟩:=he
       split at he
       ·first|(simp at he;done)|(obtain⟨_,_,he⟩:=he;simp at he;done)|(simp only[Option.bind_eq_some_iff]at he;obtain⟨_,_,he⟩:=he;cases he)
       ·try simp only[Option.bind_eq_some_iff]at he
        obtain⟨_,_,he⟩:=he
        split at he
        ·simp at he
        ·simp only[Option.some.injEq,Prod.mk.injEq]at he;exact he.2.symm
        ·cases he
       ·cases he
     subst hh
     obtain⟨m,args',lo,_,hb,hw,q1,q2,q3⟩:=aeff_round (P:=P) hf H he hl hlen
     rw[q2]
     refine⟨hF.ok n,(hrf μ h' w l args v h2 m f0 ps asg body st p lo.fn _ hc hl hb H (setAll_rel q3 q1) F (n - 1) hF).mono ?_⟩
     rintro e w' ⟨v',μ',rfl,k1,k2⟩
     exact hn μ' v' w' k1 k2
    ·cases hr
theorem wanted_rel {ops:Array Oper} (hf:FRel μ f a.tmps) (o:Oper):Region.wanted o (yielded ops a.tmps)=wanted ops.toList o f:=by
 unfold Region.wanted wanted
 cases hgd:o.guard with
 |none=>rfl
 |some jw=>
  obtain⟨j,want⟩:=jw
  simp only
  unfold yielded
  have e:ops.toList[j]? =ops[j]? :=by simp
  rw[e]
  cases ht:(ops[j]?).bind (·.dst)with
  |none=>simp
  |some t=>
   simp only[Option.bind_some]
   have hv:=hf.get t
   by_cases hlt:t<a.tmps.size
   ·have e2:a.tmps.getD t undef=a.tmps[t]:=by simp[hlt]
    rw[e2]at hv
    rw[Array.getElem?_eq_getElem hlt]
    generalize a.tmps[t]=u at hv
    generalize f.get t=c at hv
    cases hv with
    |lit hh=>cases u<;>simp
    |opq hh=>rcases hh with rfl |⟨_,_,rfl⟩<;>rfl
    |_=>rfl
   ·have e2:a.tmps.getD t undef=undef:=by simp[hlt]
    rw[e2]at hv
    have e3:a.tmps[t]? =none:=Array.getElem?_eq_none (Nat.le_of_not_lt hlt)
    rw[e3]
    generalize f.get t=c at hv
    unfold undef at hv
    cases hv with
    |lit hh=>simp[plain1]at hh
    |opq hh=>rcases hh with hh|⟨_,_,hh⟩<;>cases hh
    |tuple _ _=>rfl
theorem ops_sim (hE:EnvOk P E) (hcf:CallOk P E base B cf) (hrf:RoundOk P E base B rf) (hcF:CallFun E cf) (hrF:RoundFun rf) {F:Fence} (hF:Wide F) {n:Nat} {ops:Array Oper} {Q:Exit→Act→World→Prop}:∀(rest:List Oper) (k:Nat) (μ:Emb) (f:AF) (h:AHeap) (a:Act) (w:World) (f':AF) (h':AHeap),
 (∀j,rest[j]? =ops[k+j]?)→aops E base cf rf ops.toList rest f h=some (f',h')→FRel μ f a.tmps→HRel E base B μ h w→
 (∀μ' a' w',FRel μ' f' a'.tmps→a'.defers=a.defers→Step E base B μ h w μ' h' w'→Q .normal a' w')→wpOpsIn F n P ops Q (List.range' k rest.length) a w
 |[],k,μ,f,h,a,w,f',h',_,ha,hf,H,hQ=>by
  simp only[aops,Option.some.injEq,Prod.mk.injEq]at ha
  obtain⟨rfl,rfl⟩:=ha
  exact hQ μ a w hf rfl (.refl H)
 |o::rest,k,μ,f,h,a,w,f',h',hk,ha,hf,H,hQ=>by
  have h0:ops[k]? =some o:=by simpa using(hk 0).symm
  have hk':∀j,rest[j]? =ops[k+1+j]? :=fun j=>by have:=hk (j+1);simpa[Nat.add_assoc,Nat.add_comm 1 j]using this
  simp only[List.length_cons,List.range'_succ,wpOpsIn,h0,wanted_rel hf]
  simp only[aops]at ha
  split at ha
  ·rename_i hw
   rw[if_pos hw]
   simp only[Option.bind_eq_some_iff]at ha
   obtain⟨r,hr,ha⟩:=ha
   refine op_sim hE hcf hrf hcF hrF hF hf H hr fun μ' v' w' q1 q2=>?_
   refine ops_sim hE hcf hrf hcF hrF hF rest (k+1) μ' (f.put o.dst r.v) r.h _ w' f' h' hk' ha ((hf.mono q2.le).put q1 o.dst) q2.rel fun μ2 a2 w2 p1 p2 p3=>?_
   exact hQ μ2 a2 w2 p1 (by rw[p2];cases o.dst<;>rfl) (q2.trans p3)
  ·rename_i hw
   rw[if_neg (by rw[hw];simp)]
   refine⟨fun _ _=>hF.fn _,?_⟩
   refine ops_sim hE hcf hrf hcF hrF hF rest (k+1) μ (f.put o.dst undef) h _ w f' h' hk' ha (hf.put (.undef μ) o.dst) H fun μ2 a2 w2 p1 p2 p3=>?_
   exact hQ μ2 a2 w2 p1 (by rw[p2];cases o.dst<;>rfl) p3
end
end Go.M
namespace Go.M
open Go
def toExit:Ex→Exit
 | .normal=>.normal
 | .exit id=>.exit id
 | .ret=>.ret
structure MarkOk (W0:Nat) (μ:Emb) (w:World) (d:Deferred) (r:Nat):Prop where
 tg:d.target= .collected r
 obj:w.heap[r]? =some (.deferred (some []))
 apart:∀b m,μ b=some m→m.r≠r
 new:W0≤r
inductive MarksOk (W0:Nat) (μ:Emb) (w:World):List Deferred→List Nat→Prop
 |nil:MarksOk W0 μ w [] []
 |cons {d:Deferred} {r:Nat} {ds:List Deferred} {rs:List Nat} (h:MarkOk W0 μ w d r) (hn:r∉rs) (t:MarksOk W0 μ w ds rs):MarksOk W0 μ w (d::ds) (r::rs)
section
variable {P:Program} {E:Env} {base B:Nat}
theorem MarkOk.step {W0:Nat} {μ μ':Emb} {h h':AHeap} {w w':World} {d:Deferred} {r:Nat} (k:MarkOk W0 μ w d r) (s:Step E base B μ h w μ' h' w'):MarkOk W0 μ' w' d r:=by
 have hlt:r<w.heap.size:=(Array.getElem?_eq_some_iff.1 k.obj).1
 refine⟨k.tg,?_,?_,k.new⟩
 ·rw[s.grow.keep r hlt (fun b m hb hr=>absurd hr (k.apart b m hb))];exact k.obj
 ·intro b m hb hr
  cases h0:μ b with
  |some m0=>
   have:=s.le b m0 h0
   rw[hb]at this;cases this
   exact k.apart b m h0 hr
  |none=>
   obtain⟨_,_,h3⟩:=s.new b m h0 hb
   rcases h3 with h3|⟨b0,m0,_,h4,h5⟩
   ·omega
   ·exact k.apart b0 m0 h4 (h5.trans hr)
theorem MarksOk.step {W0:Nat} {μ μ':Emb} {h h':AHeap} {w w':World} {ds:List Deferred} {rs:List Nat} (k:MarksOk W0 μ w ds rs) (s:Step E base B μ h w μ' h' w'):MarksOk W0 μ' w' ds rs:=by
 induction k with
 |nil=>exact .nil
 |cons h hn _ ih=>exact .cons (h.step s) hn ih
theorem HRel.apart {μ:Emb} {h:AHeap} {w w':World} (H:HRel E base B μ h w) {r:Nat} {o:Obj} (hu:Upd w r o w') (ha:∀b m,μ b=some m→m.r≠r):HRel E base B μ h w':=
 ⟨H.dom,H.high,fun b m hb=>by
  obtain⟨p,p',k1,k2,k3⟩:=H.obj b m hb
  exact⟨p,p',k1,by rw[hu.get,if_neg (ha b m hb)];exact k2,k3⟩,H.own,H.alias,H.fam,H.glob,by rw[hu.size];exact H.low,H.bsz,H.wf,H.root⟩
theorem Step.apart {μ μ':Emb} {h h':AHeap} {w w1 w2:World} (s:Step E base B μ h w μ' h' w1) {r:Nat} {o:Obj} (hu:Upd w1 r o w2) (ha:∀b m,μ' b=some m→m.r≠r) (hn:w.heap.size≤r):Step E base B μ h w μ' h' w2:=
 ⟨s.rel.apart hu ha,⟨hu.tape.trans s.grow.tape,hu.os.trans s.grow.os,hu.output.trans s.grow.output,by rw[hu.size];exact s.grow.size,fun k hk hh=>by rw[hu.get,if_neg (by omega)];exact s.grow.keep k hk hh⟩,s.le,s.new,s.unt,s.hsz⟩
theorem HRel.alc {μ:Emb} {h:AHeap} {w w':World} (H:HRel E base B μ h w) {o:Obj} (ha:Alc w o w'):HRel E base B μ h w':=
 ⟨H.dom,H.high,fun b m hb=>by
  obtain⟨p,p',k1,k2,k3⟩:=H.obj b m hb
  have:=H.lt hb
  exact⟨p,p',k1,by rw[ha.get,if_neg (by omega)];exact k2,k3⟩,H.own,H.alias,H.fam,H.glob,by rw[ha.size];have:=H.low;omega,H.bsz,H.wf,H.root⟩
theorem Step.alcW {μ:Emb} {h:AHeap} {w w':World} (H:HRel E base B μ h w) {o:Obj} (ha:Alc w o w'):Step E base B μ h w μ h w':=
 ⟨H.alc ha,⟨ha.tape,ha.os,ha.output,by rw[ha.size];omega,fun r hr _=>by rw[ha.get,if_neg (by omega)]⟩,μ.le_refl,fun b m h0 h1=>by simp[h0]at h1,fun _ _ _=>rfl,Nat.le_refl _⟩
theorem results_sim (hE:EnvOk P E) {μ:Emb} {f:AF} {h:AHeap} {w:World} {tmps:Array Value} {fn:Func} {vs:List Value} (hf:FRel μ f tmps) (H:HRel E base B μ h w) (hr:aresults E h f fn.results.toList=some vs):
 ∃v',(results fn tmps).run P w= .ok v' w∧VRel μ (oneOrTuple vs) v':=by
 have key:∀(l:List ResultVar) (vs:List Value),aresults E h f l=some vs→∃vs',VRels μ vs vs'∧(l.mapM (m:=Sem) fun
  | .tmp t=>pure (tmps.getD t undef)
  | .cell a t=>do loadVar t (←asAddr (tmps.getD a undef))).run P w= .ok vs' w:=by
  intro l
  induction l with
  |nil=>intro vs hv;simp only[aresults,Option.some.injEq]at hv;subst hv;exact⟨[],.nil,by simp⟩
  |cons x l ih=>
   intro vs hv
   cases x with
   |tmp t=>
    simp only[aresults,Option.bind_eq_some_iff,Option.some.injEq]at hv
    obtain⟨vs1,h1,rfl⟩:=hv
    obtain⟨vs',r1,r2⟩:=ih vs1 h1
    exact⟨tmps.getD t undef::vs',.cons (hf.get t) r1,by simp only[List.mapM_cons,Sem.run_bind,Sem.run_pure,Result.andThen_ok,r2]⟩
   |cell a t=>
    simp only[aresults,Option.bind_eq_some_iff,Option.some.injEq]at hv
    obtain⟨p,h1,⟨ag,n⟩,h2,c,h3,v,h4,vs1,h5,rfl⟩:=hv
    have ha:=hf.get a
    rw[asPtr_some h1]at ha
    obtain⟨m,hb,ex⟩:=ha.inv_ptr
    obtain⟨l',r1,r2⟩:=H.readL hb h3
    obtain⟨v',q1,q2⟩:=fromCells_rel h4 r1
    have hl:l'.length=n:=by rw[←r1.length];exact(H.readCells hb h3).1
    obtain⟨vs',s1,s2⟩:=ih vs1 h5
    refine⟨v'::vs',.cons q2 s1,?_⟩
    have lv:=run_loadVar (P:=P) hE h2 hl r2 q1
    have hadr:(asAddr (tmps.getD a undef)).run P w= .ok ⟨m.r,m.s+p.2,none⟩ w:=by rw[ex];rfl
    rw[List.mapM_cons]
    simp only[Sem.run_bind,hadr,Sem.run_pure,Result.andThen_ok,lv]
    rw[s2]
    rfl
 obtain⟨vs',r1,r2⟩:=key _ _ hr
 have hm:(fn.results.mapM (m:=Sem) fun
  | .tmp t=>pure (tmps.getD t undef)
  | .cell a t=>do loadVar t (←asAddr (tmps.getD a undef))).run P w= .ok vs'.toArray w:=by
  rw[Array.mapM_eq_mapM_toList]
  simp only[Sem.run_map,r2,Result.andThen_ok]
 have hres:(results fn tmps).run P w= .ok (if h:vs'.toArray.size=1 then vs'.toArray[0]else .tuple vs'.toArray) w:=by
  show Sem.run P (do
   let us ←fn.results.mapM (m:=Sem) fun
    | .tmp t=>pure (tmps.getD t undef)
    | .cell a t=>do loadVar t (←asAddr (tmps.getD a undef))
   pure (if h:us.size=1 then us[0]else .tuple us)) w=_
  rw[Sem.run_bind,hm]
  rfl
 refine⟨_,hres,?_⟩
 cases r1 with
 |nil=>exact .tuple_of (by simpa using VRels.nil)
 |cons hv ht=>cases ht with
  |nil=>simpa[oneOrTuple]using hv
  |cons hv2 ht=>simp only[oneOrTuple];exact .tuple_of (by simpa using VRels.cons hv (.cons hv2 ht))
theorem leaves_marks {F:Fence} {n:Nat} {fn:Func} {tmps:Array Value} {R:Ending→World→Prop} {μ0 μ:Emb} {h0 h:AHeap} {w0:World}:∀(ds:List Deferred) (rs:List Nat) (w:World),MarksOk w0.heap.size μ w ds rs→Step E base B μ0 h0 w0 μ h w→
 (∀w',Step E base B μ0 h0 w0 μ h w'→∃v,(results fn tmps).run P w'= .ok v w'∧R (.returned v) w')→LeavesInM F n P fn tmps R ds .returning w
 |[],_,w,_,s,hR=>hR w s
 |d::ds,_,w,.cons (r:=r) (rs:=rs) hk hn ht,s,hR=>by
  refine⟨by simp,.inl ⟨r,{w with heap:=w.heap.setIfInBounds r (.deferred none)},hk.tg,?_,?_⟩⟩
  ·unfold Instr.takeDeferred
   simp only[Sem.run_bind,run_getObj_map (P:=P) hk.obj (fun _ _ _=>by simp),Result.andThen_ok,run_setObj' (P:=P) hk.obj (fun _ _ _=>by simp),Sem.run_pure]
  ·have hlt:r<w.heap.size:=(Array.getElem?_eq_some_iff.1 hk.obj).1
   have hu:=Upd.set w r (.deferred none) hlt
   refine leaves_marks ds rs _ ?_ (s.apart hu hk.apart hk.new) hR
   have:∀{ds:List Deferred} {rs:List Nat},MarksOk w0.heap.size μ w ds rs→r∉rs→MarksOk w0.heap.size μ {w with heap:=w.heap.setIfInBounds r (.deferred none)} ds rs:=by
    intro ds rs k
    induction k with
    |nil=>intro _;exact .nil
    |cons h1 h2 _ ih=>
     intro hnr
     simp only[List.mem_cons,not_or]at hnr
     exact .cons ⟨h1.tg,by rw[hu.get,if_neg (fun e=>hnr.1 e.symm)];exact h1.obj,h1.apart,h1.new⟩ h2 (ih hnr.2)
   exact this ht hn
def DrawSim (P:Program) (E:Env) (base B:Nat):Prop:=
 ∀(cf:CallF) (rf:RoundF),CallOk P E base B cf→RoundOk P E base B rf→CallFun E cf→RoundFun rf→∀(ops:Array Oper) (f:AF) (h:AHeap) (f':AF) (h':AHeap) (logs:List LogE),
  staticOk ops.toList=true→dstsIn f.n ops.toList=true→aopsL E base cf rf ops.toList ops.toList f h=some (f',h',logs)→allPass (befores ops.toList []) 0 logs=true→
  ∀(μ:Emb) (a:Act) (w:World),FRel μ f a.tmps→HRel E base B μ h w→∀(F:Fence) (n id:Nat) (Q:Exit→Act→World→Prop),Wide F→
  (∀μ' a' w',FRel μ' f' a'.tmps→a'.defers=a.defers→Step E base B μ h w μ' h' w'→Q .normal a' w')→(Code.region id ops true).wpIn F n P Q a w
def CodeOk (P:Program) (E:Env) (base B k:Nat):Prop:=
 ∀(c:Code) (f:AF) (h:AHeap) (ex:Ex) (f':AF) (h':AHeap),aeval E base k c f h=some (ex,f',h')→
  ∀(μ:Emb) (a:Act) (w:World) (W0:Nat) (rs:List Nat),FRel μ f a.tmps→HRel E base B μ h w→MarksOk W0 μ w a.defers rs→W0≤w.heap.size→
  ∀(F:Fence) (n:Nat) (Q:Exit→Act→World→Prop),Wide F→(F.round=none∨noRange c=true)→
  (∀μ' a' w' rs',FRel μ' f' a'.tmps→MarksOk W0 μ' w' a'.defers rs'→Step E base B μ h w μ' h' w'→Q (toExit ex) a' w')→c.wpIn F n P Q a w
theorem enterL_rel {μ:Emb}:∀{args args':List Value} {i:Nat} {f:AF} {tmps:Array Value},VRels μ args args'→FRel μ f tmps→FRel μ (AF.enterL args i f) ((args'.zipIdx i).foldl (fun t p=>t.setIfInBounds p.2 p.1) tmps)
 |_,_,i,f,tmps,.nil,hf=>by simpa[AF.enterL]using hf
 |_,_,i,f,tmps,.cons hv ht,hf=>by
  simp only[AF.enterL,List.zipIdx_cons,List.foldl_cons]
  exact enterL_rel ht (hf.set hv i)
theorem enter_rel {μ:Emb} {args:List Value} {args':Array Value} {n:Nat} (hr:VRels μ args args'.toList) (hn:args.length≤n):FRel μ (AF.enter args n) (args'++Array.replicate (n - args'.size) undef):=by
 have hl:args.length=args'.size:=by simpa using hr.length
 have h0:FRel μ ⟨.nil,n⟩ (Array.replicate n undef):=by
  refine⟨by simp,fun t=>?_⟩
  have:(AF.get ⟨.nil,n⟩ t)=undef:=rfl
  rw[this]
  by_cases h:t<n<;>simp[h]<;>exact .undef μ
 have:=enterL_rel (i:=0) hr h0
 have e:((args'.toList.zipIdx 0).foldl (fun t p=>t.setIfInBounds p.2 p.1) (Array.replicate n undef))=args'++Array.replicate (n - args'.size) undef:=by
  have zf:=zipFold args'.toList 0 0 (Array.replicate n undef) (by simp;omega)
  simp only[Nat.zero_add]at zf
  apply Array.ext
  ·rw[zf.1];simp;omega
  ·intro i h1 h2
   have:=zf.2 i
   rw[Array.getElem?_eq_getElem h1]at this
   rw[←Option.some.injEq,this]
   by_cases hi:i<args'.size
   ·rw[if_pos (by simp;exact hi)]
    simp[hi]
   ·rw[if_neg (by simp;omega)]
    have hin:i<n:=by
     rw[zf.1]at h1;simpa using h1
    simp[hi,hin,Array.getElem_append]
 rw[←e];exact this
theorem callFun (run:RunF):CallFun E (acallB E base run):=by
 intro g args h r hr
 unfold acallB at hr
 simp only[Option.bind_eq_some_iff]at hr
 obtain⟨fn,h1,_⟩:=hr
 simp[h1]
theorem roundFun (run:RunF):RoundFun (aroundB base run):=by
 intro l args h r hr
 unfold aroundB at hr
 simp only[grd_some]at hr
 obtain⟨_,hr⟩:=hr
 split at hr
 ·rename_i p f ps asg body hg
  simp only[grd_some,Bool.and_eq_true,beq_iff]at hr
  exact⟨_,_,_,_,_,_,hg,hr.1.1.1⟩
 ·cases hr
def OrcOk (P:Program) (E:Env) (base B:Nat):Prop:=CallOk P E base B (E.orc base)
theorem callOk (hE:EnvOk P E) (hO:OrcOk P E base B) {k:Nat} (hk:CodeOk P E base B k):CallOk P E base B (acallB E base (aeval E base k)):=by
 intro μ h w g args args' v h' hc hr H F n hF
 unfold acallB at hc
 simp only[Option.bind_eq_some_iff]at hc
 obtain⟨fn,h1,hc⟩:=hc
 split at hc
 ·rename_i r ho
  simp only[Option.some.injEq]at hc;subst hc
  exact hO μ h w g args args' v h' ho hr H F n hF
 ·simp only[Option.bind_eq_some_iff,grd_some,ble_iff]at hc
  obtain⟨c,h2,hn,hc⟩:=hc
  obtain⟨f1,f2,f3⟩:=hE.func _ _ h1
  have body:∀ex f1' h1',aeval E base k c (AF.enter args fn.ntmps) h=some (ex,f1',h1')→(toExit ex= .normal∨toExit ex= .ret)→(aresults E h1' f1' fn.results.toList).bind (fun vs=>some (oneOrTuple vs,h1'))=some (v,h')→
   CallsIn F.plain n P g args' w (RetPost E base B μ h w v h'):=by
   intro ex fe he hrun hex hres
   simp only[Option.bind_eq_some_iff,Option.some.injEq,Prod.mk.injEq]at hres
   obtain⟨vs,h3,rfl,rfl⟩:=hres
   refine callsIn_of_wp_marks f1 h2 (hF.fn _) ?_ rfl
   refine hk c _ h ex fe he hrun μ _ w w.heap.size [] (enter_rel hr hn) H .nil (Nat.le_refl _) F.plain n _ hF.plain (.inl rfl) ?_
   intro μ' a' w' rs' q1 q2 q3
   have lv:LeavesInM F.plain n P fn a'.tmps (RetPost E base B μ h w (oneOrTuple vs) he) a'.defers .returning w':=
    leaves_marks a'.defers rs' w' q2 q3 fun w2 s2=>by
     obtain⟨v',p1,p2⟩:=results_sim (P:=P) hE q1 s2.rel h3
     exact⟨v',p1,v',μ',rfl,p2,s2⟩
   rcases hex with e|e<;>rw[e]<;>exact lv
  have fin:CallsIn F.plain n P g args' w (RetPost E base B μ h w v h'):=by
   split at hc
   ·rename_i fe he hrun;exact body _ _ _ hrun (.inl rfl) hc
   ·rename_i fe he hrun;exact body _ _ _ hrun (.inr rfl) hc
   ·cases hc
  exact fin
end
end Go.M
namespace Go.M
open Go
section
variable {P:Program} {E:Env} {base B:Nat}
theorem run_getLoop {w:World} {r:Nat} {lo:Loop} (h:w.heap[r]? =some (.loop lo)):(Instr.getLoop r).run P w= .ok lo w:=by
 unfold Instr.getLoop
 simp only[Sem.run_bind,run_getObj_map (P:=P) h (fun _ _ _=>by simp),Result.andThen_ok,Sem.run_pure]
theorem loop_put {μ:Emb} {h:AHeap} {w:World} (H:HRel E base B μ h w) {l:Nat} {m:MT} (hb:μ l=some m) (hbase:base≤l) {st:LoopState} {p:Option Code} {f0:AF} {ps:List Tmp} {asg body:Code} (hg:h.get l=some (.loop st p f0 ps asg body)) (st':LoopState) (p':Option Code):
 ∃lo:Loop,w.heap[m.r]? =some (.loop lo)∧lo.state=st∧lo.pending=p∧Step E base B μ h w μ (h.put l (.loop st' p' f0 ps asg body)) {w with heap:=w.heap.setIfInBounds m.r (.loop {lo with state:=st',pending:=p'})}:=by
 obtain⟨o1,o2,k1,k2,k3⟩:=H.obj l m hb
 rw[hg]at k1;cases k1
 cases k3 with
 |loop hf=>
  refine⟨_,k2,rfl,rfl,?_⟩
  exact Step.put H hb hbase hg rfl rfl (Upd.set w m.r _ (H.lt hb)) (.loop hf)
theorem roundOk {k:Nat} (hk:CodeOk P E base B k):RoundOk P E base B (aroundB base (aeval E base k)):=by
 intro μ h w l args v h' m f0 ps asg body st p fn tmps hr hl hb H hf F n hF
 unfold aroundB at hr
 simp only[grd_some,ble_iff]at hr
 obtain⟨hbase,hr⟩:=hr
 rw[hl]at hr
 cases st with
 |ready=>
  simp only[grd_some,Bool.and_eq_true,beq_iff]at hr
  obtain⟨⟨⟨hlen,hna⟩,hnb⟩,hr⟩:=hr
  split at hr
  ·rename_i f1 h1 hasg
   split at hr
   ·rename_i p1 f01 ps1 asg1 body1 hl1
    simp only[Option.bind_eq_some_iff]at hr
    obtain⟨⟨ex,f2,h2⟩,hbody,hr⟩:=hr
    simp only at hr
    split at hr
    ·rename_i st2 p2 f02 ps2 asg2 body2 hl2
     refine roundIn_of_wpIn (hF.fn _) ?_
     refine hk asg _ h .normal f1 h1 hasg μ _ w w.heap.size [] hf H .nil (Nat.le_refl _) (F.inRound m.r) n _ (hF.inRound _) (.inr hna) ?_
     intro μ1 a1 w1 rs1 q1 q2 s1
     have hb1:=s1.le _ _ hb
     obtain⟨lo1,e1,e2,e3,s2⟩:=loop_put s1.rel hb1 hbase hl1 .busy p1
     have s2':Step E base B μ1 h1 w1 μ1 (h1.put l (.loop .busy p1 f01 ps1 asg1 body1)) {w1 with heap:=w1.heap.setIfInBounds m.r (.loop {lo1 with state:=.busy})}:=by
      rw[←e3]at s2 ⊢
      exact s2
     refine⟨{w1 with heap:=w1.heap.setIfInBounds m.r (.loop {lo1 with state:=.busy})},?_,?_⟩
     ·unfold Instr.beginRound
      simp only[Sem.run_bind,run_getLoop (P:=P) e1,Result.andThen_ok,run_setObj' (P:=P) e1 (fun _ _ _=>by simp),e2,Sem.run_pure]
     refine hk body f1 _ ex f2 h2 hbody μ1 a1 _ w.heap.size rs1 q1 s2'.rel (q2.step s2') (by rw[Array.size_setIfInBounds];exact s1.grow.size) (F.inRound m.r) n _ (hF.inRound _) (.inr hnb) ?_
     intro μ3 a3 w3 rs3 q3 q4 s3
     have sall:=(s1.trans s2')
     have hb3:=s3.le _ _ hb1
     have key:∀(st':LoopState) (jump:Option Code),(jump.isNone=true→st'= .ready)→(jump.isNone=false→st'= .done)→∃w4,(Instr.endRound m.r jump).run P w3= .ok (.bool jump.isNone) w4∧Step E base B μ3 h2 w3 μ3 (h2.put l (.loop st' jump f02 ps2 asg2 body2)) w4:=by
      intro st' jump hj1 hj2
      obtain⟨lo3,d1,d2,d3,s4⟩:=loop_put s3.rel hb3 hbase hl2 st' jump
      refine⟨_,?_,s4⟩
      unfold Instr.endRound
      simp only[Sem.run_bind,run_getLoop (P:=P) d1,Result.andThen_ok,run_setObj' (P:=P) d1 (fun _ _ _=>by simp),Sem.run_pure]
      cases hj:jump.isNone with
      |true=>rw[hj1 hj];simp
      |false=>rw[hj2 hj];simp
     cases ex with
     |normal=>
      simp only[Option.some.injEq,Prod.mk.injEq]at hr
      obtain⟨rfl,rfl⟩:=hr
      obtain⟨w4,k1,k2⟩:=key .ready none (fun _=>rfl) (fun h=>by simp at h)
      exact⟨_,w4,k1,_,μ3,rfl,.bool _ _,(sall.trans s3).trans k2⟩
     |ret=>
      simp only[Option.some.injEq,Prod.mk.injEq]at hr
      obtain⟨rfl,rfl⟩:=hr
      obtain⟨w4,k1,k2⟩:=key .done (some .ret) (fun h=>by simp at h) (fun _=>rfl)
      exact⟨_,w4,k1,_,μ3,rfl,.bool _ _,(sall.trans s3).trans k2⟩
     |exit id=>
      simp only[Option.some.injEq,Prod.mk.injEq]at hr
      obtain⟨rfl,rfl⟩:=hr
      obtain⟨w4,k1,k2⟩:=key .done (some (.exit id)) (fun h=>by simp at h) (fun _=>rfl)
      exact⟨_,w4,k1,_,μ3,rfl,.bool _ _,(sall.trans s3).trans k2⟩
    ·cases hr
   ·cases hr
  ·cases hr
 |busy=>cases hr
 |done=>cases hr
 |exhausted=>cases hr
theorem codeOk (hE:EnvOk P E) (hO:OrcOk P E base B) (hD:DrawSim P E base B):∀k,CodeOk P E base B k∧
 (∀(b:Code) (f:AF) (h:AHeap) (ex:Ex) (f':AF) (h':AHeap),aeval E base k (.loop b) f h=some (ex,f',h')→
  ∀(μ:Emb) (a:Act) (w:World) (W0:Nat) (rs:List Nat),FRel μ f a.tmps→HRel E base B μ h w→MarksOk W0 μ w a.defers rs→W0≤w.heap.size→
  ∀(F:Fence) (n:Nat) (Q:Exit→Act→World→Prop),Wide F→(F.round=none∨noRange b=true)→
  (∀μ' a' w' rs',FRel μ' f' a'.tmps→MarksOk W0 μ' w' a'.defers rs'→Step E base B μ h w μ' h' w'→Q (toExit ex) a' w')→Code.roundsIn F n P b Q k a w):=by
 intro k
 induction k with
 |zero=>exact⟨fun c f h ex f' h' hr=>by simp[aeval]at hr,fun b f h ex f' h' hr=>by simp[aeval]at hr⟩
 |succ k ih=>
  obtain⟨hk,hloop⟩:=ih
  have hcall:=callOk hE hO hk
  have hround:=roundOk hk
  have loopk:∀(b:Code) (f:AF) (h:AHeap) (ex:Ex) (f':AF) (h':AHeap),aeval E base (k+1) (.loop b) f h=some (ex,f',h')→
   ∀(μ:Emb) (a:Act) (w:World) (W0:Nat) (rs:List Nat),FRel μ f a.tmps→HRel E base B μ h w→MarksOk W0 μ w a.defers rs→W0≤w.heap.size→
   ∀(F:Fence) (n:Nat) (Q:Exit→Act→World→Prop),Wide F→(F.round=none∨noRange b=true)→
   (∀μ' a' w' rs',FRel μ' f' a'.tmps→MarksOk W0 μ' w' a'.defers rs'→Step E base B μ h w μ' h' w'→Q (toExit ex) a' w')→Code.roundsIn F n P b Q (k+1) a w:=by
   intro b f h ex f' h' hr μ a w W0 rs hf H hm hW F n Q hF hrg hQ
   simp only[aeval]at hr
   rw[roundsIn_succ]
   split at hr
   ·rename_i f1 h1 hb
    refine hk b f h .normal f1 h1 hb μ a w W0 rs hf H hm hW F n _ hF hrg fun μ1 a1 w1 rs1 q1 q2 s1=>?_
    exact hloop b f1 h1 ex f' h' hr μ1 a1 w1 W0 rs1 q1 s1.rel q2 (Nat.le_trans hW s1.grow.size) F n Q hF hrg fun μ2 a2 w2 rs2 p1 p2 s2=>hQ μ2 a2 w2 rs2 p1 p2 (s1.trans s2)
   ·rename_i hnn
    refine hk b f h ex f' h' hr μ a w W0 rs hf H hm hW F n _ hF hrg fun μ1 a1 w1 rs1 q1 q2 s1=>?_
    have:=hQ μ1 a1 w1 rs1 q1 q2 s1
    cases ex with
    |normal=>exact(hnn _ _ hr).elim
    |exit id=>exact this
    |ret=>exact this
  refine⟨?_,loopk⟩
  intro c f h ex f' h' hr μ a w W0 rs hf H hm hW F n Q hF hrg hQ
  cases c with
  |skip=>
   simp only[aeval,Option.some.injEq,Prod.mk.injEq]at hr
   obtain⟨rfl,rfl,rfl⟩:=hr
   exact wpIn_skip (hQ μ a w rs hf hm (.refl H))
  |exit id=>
   simp only[aeval,Option.some.injEq,Prod.mk.injEq]at hr
   obtain⟨rfl,rfl,rfl⟩:=hr
   exact wpIn_exit (hQ μ a w rs hf hm (.refl H))
  |ret=>
   simp only[aeval,Option.some.injEq,Prod.mk.injEq]at hr
   obtain⟨rfl,rfl,rfl⟩:=hr
   exact wpIn_ret (hQ μ a w rs hf hm (.refl H))
  |seq x y=>
   simp only[aeval]at hr
   have hx:F.round=none∨noRange x=true:=hrg.imp id fun h=>by simp[noRange]at h;exact h.1
   have hy:F.round=none∨noRange y=true:=hrg.imp id fun h=>by simp[noRange]at h;exact h.2
   refine wpIn_seq ?_
   split at hr
   ·rename_i f1 h1 hb
    refine hk x f h .normal f1 h1 hb μ a w W0 rs hf H hm hW F n _ hF hx fun μ1 a1 w1 rs1 q1 q2 s1=>?_
    exact hk y f1 h1 ex f' h' hr μ1 a1 w1 W0 rs1 q1 s1.rel q2 (Nat.le_trans hW s1.grow.size) F n Q hF hy fun μ2 a2 w2 rs2 p1 p2 s2=>hQ μ2 a2 w2 rs2 p1 p2 (s1.trans s2)
   ·rename_i hnn
    refine hk x f h ex f' h' hr μ a w W0 rs hf H hm hW F n _ hF hx fun μ1 a1 w1 rs1 q1 q2 s1=>?_
    have:=hQ μ1 a1 w1 rs1 q1 q2 s1
    cases ex with
    |normal=>exact(hnn _ _ hr).elim
    |exit id=>exact this
    |ret=>exact this
  |cond cx x y=>
   simp only[aeval,Option.bind_eq_some_iff]at hr
   obtain⟨v,h1,b,h2,h3⟩:=hr
   have e:=asB_some h2;subst e
   have hc:=(ev_rel H.glob hf h1).inv_scalar rfl
   have hx:F.round=none∨noRange x=true:=hrg.imp id fun h=>by simp[noRange]at h;exact h.1
   have hy:F.round=none∨noRange y=true:=hrg.imp id fun h=>by simp[noRange]at h;exact h.2
   cases b with
   |true=>exact wpIn_cond_true hc (hk x f h ex f' h' h3 μ a w W0 rs hf H hm hW F n Q hF hx hQ)
   |false=>exact wpIn_cond_false hc (hk y f h ex f' h' h3 μ a w W0 rs hf H hm hW F n Q hF hy hQ)
  |block id b=>
   simp only[aeval]at hr
   have hb':F.round=none∨noRange b=true:=hrg.imp (fun h=>h) fun h=>by simpa[noRange]using h
   refine wpIn_block ?_
   split at hr
   ·rename_i id' f1 h1 hb
    refine hk b f h (.exit id') f1 h1 hb μ a w W0 rs hf H hm hW F n _ hF hb' fun μ1 a1 w1 rs1 q1 q2 s1=>?_
    rw[bif_eq]at hr
    show(if id'=id then Q .normal a1 w1 else Q (.exit id') a1 w1)
    by_cases e:id'=id
    ·rw[if_pos (beq_iff.2 e)]at hr
     simp only[Option.some.injEq,Prod.mk.injEq]at hr
     obtain⟨rfl,rfl,rfl⟩:=hr
     rw[if_pos e];exact hQ μ1 a1 w1 rs1 q1 q2 s1
    ·rw[if_neg (fun hh=>e (beq_iff.1 hh))]at hr
     simp only[Option.some.injEq,Prod.mk.injEq]at hr
     obtain⟨rfl,rfl,rfl⟩:=hr
     rw[if_neg e];exact hQ μ1 a1 w1 rs1 q1 q2 s1
   ·rename_i hnn
    refine hk b f h ex f' h' hr μ a w W0 rs hf H hm hW F n _ hF hb' fun μ1 a1 w1 rs1 q1 q2 s1=>?_
    have:=hQ μ1 a1 w1 rs1 q1 q2 s1
    cases ex with
    |normal=>exact this
    |exit id'=>exact(hnn _ _ _ hr).elim
    |ret=>exact this
  |loop b=>
   exact wpIn_loop_rounds (k+1) (loopk b f h ex f' h' hr μ a w W0 rs hf H hm hW F n Q hF (hrg.imp id fun h=>by simpa[noRange]using h) hQ)
  |region id ops draw=>
   simp only[aeval,aregion]at hr
   cases draw with
   |false=>
    simp only[Option.bind_eq_some_iff,Option.some.injEq,Prod.mk.injEq]at hr
    obtain⟨⟨f1,h1⟩,hb,rfl,rfl,rfl⟩:=hr
    refine wpIn_region ?_
    have:=ops_sim hE hcall hround (callFun _) (roundFun _) hF (n:=n) (ops:=ops) (Q:=Q) ops.toList 0 μ f h a w f1 h1 (fun j=>by simp) hb hf H fun μ1 a1 w1 q1 q2 s1=>hQ μ1 a1 w1 rs q1 (by rw[q2];exact hm.step s1) s1
    rw[List.range_eq_range',←Array.length_toList]
    exact this
   |true=>
    simp only[grd_some,Bool.and_eq_true,Option.bind_eq_some_iff,Option.some.injEq,Prod.mk.injEq]at hr
    obtain⟨⟨hs,hd⟩,⟨f1,h1,logs⟩,hb,hp,rfl,rfl,rfl⟩:=hr
    exact hD _ _ hcall hround (callFun _) (roundFun _) ops f h f1 h1 logs hs hd hb hp μ a w hf H F n id Q hF fun μ1 a1 w1 q1 q2 s1=>hQ μ1 a1 w1 rs q1 (by rw[q2];exact hm.step s1) s1
  |rangeFunc g ps asg body=>
   have hro:F.round=none:=hrg.resolve_right (by simp[noRange])
   simp only[aeval,Option.bind_eq_some_iff,grd_some,ble_iff]at hr
   obtain⟨gv,h1,hbase,hr⟩:=hr
   split at hr
   ·rename_i gid first captured
    simp only[Option.bind_eq_some_iff]at hr
    obtain⟨⟨rv,h2⟩,hc,hr⟩:=hr
    simp only at hr
    have hgr:=ev_rel H.glob hf h1
    generalize hq:a.eval g=q at hgr
    cases hgr with
    |lit hh=>simp[plain1]at hh
    |func t1 t2 t3 t4=>
     rename_i first' captured'
     refine wpIn_rangeFunc fun fn _=>?_
     let wA:World:={w with heap:=w.heap.push (.deferred (some []))}
     let lo:Loop:={state:=.ready,pending:=none,fn:=fn,tmps:=a.tmps,params:=ps,assign:=asg,body:=body,defers:=w.heap.size}
     let wB:World:={wA with heap:=wA.heap.push (.loop lo)}
     have sA:Step E base B μ h w μ h wA:=Step.alcW H (Alc.mk' w _)
     have hszA:wA.heap.size=w.heap.size+1:=by simp[wA]
     have sB:=Step.alloc (o:=.loop .ready none f ps.toList asg body) sA.rel (Alc.mk' wA (.loop lo)) 0 (fun _ _ _ _ hh=>by cases hh) (by
      have:=ORel.loop (μ:=upd μ h.size ⟨wA.heap.size,0,0⟩) (h:=h.push (.loop .ready none f ps.toList asg body)) (base:=base) (b:=h.size) (m:=⟨wA.heap.size,0,0⟩) (st:=.ready) (p:=none) (ps:=ps.toList) (asg:=asg) (body:=body) (fn:=fn) (d:=w.heap.size) (hf.mono (upd_le H.fresh))
      simpa using this)
     let mk:Deferred:={target:=.collected w.heap.size,args:= #[]}
     have hmk:MarkOk W0 μ wA mk w.heap.size:=⟨rfl,by simp[wA],fun b m hb he=>by have:=H.lt hb;omega,hW⟩
     have hnr:w.heap.size∉rs:=by
      have:∀{ds:List Deferred} {rs:List Nat},MarksOk W0 μ w ds rs→∀r∈rs,r<w.heap.size:=by
       intro ds rs k
       induction k with
       |nil=>intro r hr;simp at hr
       |cons h1 _ _ ih=>intro r hr;rcases List.mem_cons.1 hr with rfl |hr
                        ·exact(Array.getElem?_eq_some_iff.1 h1.obj).1
                        ·exact ih r hr
      intro hmem
      have:=this hm _ hmem
      omega
     have hmarks:MarksOk W0 μ wA (mk::a.defers) (w.heap.size::rs):=.cons hmk hnr (hm.step sA)
     let args':Array Value:=first'++ #[.func (.yield wA.heap.size) #[] #[]]++captured'
     have hfun:=callFun (E:=E) _ _ _ _ _ hc
     obtain⟨fnr,hfnr⟩:=Option.isSome_iff_exists.1 hfun
     obtain⟨g1,g2,g3⟩:=hE.func _ _ hfnr
     have hbn:fnr.body.isNone=false:=by cases hx:fnr.body<;>simp_all
     have hargs:VRels (upd μ h.size ⟨wA.heap.size,0,0⟩) (first.toList++[.func (.yield h.size) #[] #[]]++captured.toList) args'.toList:=by
      have hle:μ.le (upd μ h.size ⟨wA.heap.size,0,0⟩):=upd_le H.fresh
      have v1:=(VRels.of_arr t1 t2).mono hle
      have v3:=(VRels.of_arr t3 t4).mono hle
      have v2:=VRels.cons (VRel.yield (upd_self μ h.size ⟨wA.heap.size,0,0⟩)) .nil
      simpa[args']using(v1.append v2).append v3
     refine⟨wA.heap.size,[mk],wB,{target:=.fn (.func gid) captured',args:=first'++ #[.func (.yield wA.heap.size) #[] #[]]},wB,gid,args',wB,?_,?_,fun _ _=>hF.fn _,?_,hF.ok n,?_⟩
     ·rw[hro]
      unfold Instr.enterLoop
      simp only[Sem.run_bind,run_newObj,Result.andThen_ok,Sem.run_pure]
      rfl
     ·have hcv:∀v:Value,a.eval (.const v)=v:=fun _=>rfl
      simp[resolve,hq,Deferred.ofValue,Sem.run_pure,hcv]
     ·simp only[invoke,callFunc,Sem.run_bind,run_program,Result.andThen_ok,g1,g3,hbn,Bool.false_eq_true,if_false,Sem.run_pure]
      rfl
     ·refine(hcall _ _ wB gid _ args' rv h2 hc hargs sB.rel F (n - 1) hF).mono ?_
      rintro e w3 ⟨v',μ3,rfl,k1,s3⟩
      have hb3:μ3 h.size=some ⟨wA.heap.size,0,0⟩:=s3.le _ _ (upd_self _ _ _)
      split at hr
      ·rename_i st p f0 ps0 asg0 body0 hl
       simp only[grd_some]at hr
       obtain⟨hst,hr⟩:=hr
       obtain⟨lo3,d1,d2,d3,s4⟩:=loop_put s3.rel hb3 hbase hl .exhausted p
       have s4':Step E base B μ3 h2 w3 μ3 (h2.put h.size (.loop .exhausted p f0 ps0 asg0 body0)) {w3 with heap:=w3.heap.setIfInBounds wA.heap.size (.loop {lo3 with state:=.exhausted})}:=by
        rw[←d3]at s4 ⊢
        exact s4
       have sall:=((sA.trans sB).trans s3).trans s4'
       have hm4:MarksOk W0 μ3 {w3 with heap:=w3.heap.setIfInBounds wA.heap.size (.loop {lo3 with state:=.exhausted})} (mk::a.defers) (w.heap.size::rs):=((hmarks.step sB).step s3).step s4'
       refine⟨p,{w3 with heap:=w3.heap.setIfInBounds wA.heap.size (.loop {lo3 with state:=.exhausted})},?_,?_⟩
       ·unfold Instr.endLoop
        simp only[Sem.run_bind,run_getLoop (P:=P) d1,Result.andThen_ok]
        rw[if_neg (by rw[d2];intro hh;rw[bne_iff_ne]at hst;exact hst (eq_of_beq hh))]
        simp only[Sem.run_bind,run_setObj' (P:=P) d1 (fun _ _ _=>by simp),Result.andThen_ok,Sem.run_pure,d3]
       ·cases p with
        |none=>
         simp only[Option.some.injEq,Prod.mk.injEq]at hr
         obtain⟨rfl,rfl,rfl⟩:=hr
         exact hQ μ3 _ _ _ (hf.mono sall.le) hm4 sall
        |some cj=>
         simp only at hr
         exact hk cj f _ ex f' h' hr μ3 {a with defers:=mk::a.defers} _ W0 _ (hf.mono sall.le) s4'.rel hm4 (Nat.le_trans hW sall.grow.size) F n Q hF (.inl hro) fun μ5 a5 w5 rs5 p1 p2 s5=>hQ μ5 a5 w5 rs5 p1 p2 (sall.trans s5)
      ·cases hr
   ·cases hr
  |scope b=>simp only[aeval]at hr;cases hr
  |label l=>simp only[aeval]at hr;cases hr
  |goto l=>simp only[aeval]at hr;cases hr
  |refuse s=>simp only[aeval]at hr;cases hr
end
end Go.M
namespace Go.M
open Go
def ObjAt (base:Nat) (μ:Emb) (h:AHeap) (w:World) (b:Nat) (m:MT):Prop:=∃o o',h.get b=some o∧w.heap[m.r]? =some o'∧ORel μ h base b m o o'
theorem ObjAt.read {base:Nat} {μ:Emb} {h:AHeap} {w:World} {b:Nat} {m:MT} (H:ObjAt base μ h w b m) {cs:List Value} (hr:h.rd b=some cs):
 ∃c e fr,w.heap[m.r]? =some (.cells c e fr)∧c.size=m.n∧m.s+cs.length≤m.n∧(base≤b→NoFr fr m.n)∧∀(i:Nat) v,cs[i]? =some v→∃v',c[m.s+i]? =some v'∧VRel μ v v':=by
 obtain⟨o,o',ho,ho',hrel⟩:=H
 obtain⟨r,h1,h2,h3⟩:=rd_some hr
 obtain⟨f,tip,thr,hg⟩:=cellsOf_some h3
 rw[hg]at ho;cases ho
 cases hrel with
 |cells hn hl hf hc=>exact⟨_,_,_,ho',hn,hl,hf,hc (by simp[hr])⟩
theorem ObjAt.readCells {base:Nat} {μ:Emb} {h:AHeap} {w:World} {b o n:Nat} {m:MT} (H:ObjAt base μ h w b m) {l:List Value} (hr:readCells h b o n=some l):
 l.length=n∧∀(i:Nat) v,l[i]? =some v→∃v',w.cell? ⟨m.r,m.s+o+i,none⟩=some v'∧VRel μ v v':=by
 unfold M.readCells at hr
 simp only[Option.bind_eq_some_iff,takeN_some]at hr
 obtain⟨cs,h1,h2,rfl⟩:=hr
 refine⟨by simp at h2 ⊢;omega,fun i v hv=>?_⟩
 obtain⟨c,e,fr,hw,hn,hl,hf,hc⟩:=H.read h1
 have hi:i<n:=by
  have:=(List.getElem?_eq_some_iff.1 hv).1
  simp at this;omega
 rw[List.getElem?_take,if_pos hi,List.getElem?_drop]at hv
 obtain⟨v',k1,k2⟩:=hc _ v hv
 refine⟨v',?_,k2⟩
 simp only[World.cell?,hw]
 simpa[Nat.add_assoc]using k1
section
variable {P:Program} {E:Env} {μ:Emb} {f:AF} {a:Act} {base B:Nat} {h:AHeap} {w:World}
theorem ObjAt.readL {b o n:Nat} {m:MT} (H:ObjAt base μ h w b m) {l:List Value} (hr:M.readCells h b o n=some l):
 ∃l',VRels μ l l'∧∀(i:Nat) v,l'[i]? =some v→w.cell? ⟨m.r,m.s+o+i,none⟩=some v:=by
 obtain⟨h1,h2⟩:=H.readCells hr
 have key:∀(l:List Value) (k:Nat),(∀(i:Nat) v,l[i]? =some v→∃v',w.cell? ⟨m.r,m.s+o+k+i,none⟩=some v'∧VRel μ v v')→∃l',VRels μ l l'∧∀(i:Nat) v,l'[i]? =some v→w.cell? ⟨m.r,m.s+o+k+i,none⟩=some v:=by
  intro l
  induction l with
  |nil=>intro k _;exact⟨[],.nil,fun i v h=>by simp at h⟩
  |cons v l ih=>
   intro k hl
   obtain⟨v',q1,q2⟩:=hl 0 v rfl
   obtain⟨l',r1,r2⟩:=ih (k+1) fun i u hu=>by
    obtain⟨u',k1,k2⟩:=hl (i+1) u (by simpa using hu)
    exact⟨u',by rw[←k1];congr 2;omega,k2⟩
   refine⟨v'::l',.cons q2 r1,fun i u hu=>?_⟩
   cases i with
   |zero=>simp at hu;subst hu;simpa using q1
   |succ i=>
    simp at hu
    rw[←r2 i u hu];congr 2;omega
 obtain⟨l',r1,r2⟩:=key l 0 (by simpa using h2)
 exact⟨l',r1,by simpa using r2⟩
theorem aread_loc (hE:EnvOk P E) (hf:FRel μ f a.tmps) (hg:GlobOk E μ) {o:Oper} {q:RQ} {v:Value} (hq:aread E f o=some q) (Hq:∀m,μ q.blk=some m→∃h,q.run h=some v∧ObjAt base μ h w q.blk m):
 ∃v',VRel μ v v'∧(execOp a.eval o).run P w= .ok (.value v') w:=by
 obtain⟨dst,op,type,pos,after,guard⟩:=o
 cases op
 case load t x=>
  simp only[aread,Option.bind_eq_some_iff,Option.some.injEq]at hq
  obtain⟨u,h1,p,h2,⟨agg,n⟩,h3,rfl⟩:=hq
  have e:=asPtr_some h2;subst e
  obtain⟨m,hb,ex⟩:=(ev_rel hg hf h1).inv_ptr
  obtain⟨h,hv,H⟩:=Hq m hb
  simp only[RQ.run,Option.bind_eq_some_iff]at hv
  obtain⟨l,h4,h5⟩:=hv
  obtain⟨l',r1,r2⟩:=H.readL h4
  obtain⟨v',q1,q2⟩:=fromCells_rel h5 r1
  refine⟨v',q2,?_⟩
  have hl:l'.length=n:=by rw[←r1.length];exact(H.readCells h4).1
  simp only[execOp,Instr.loadAt,Sem.run_bind,ex,Instr.sureAddr,Sem.run_pure,Result.andThen_ok]
  rw[run_loadVar hE h3 hl r2 q1]
  rfl
 case lookup t x ix ok=>
  simp only[aread,Option.bind_eq_some_iff]at hq
  obtain⟨d,hd,mv,h1,k,h2,h3⟩:=hq
  split at h3
  ·rename_i kt elem r
   simp only[Option.bind_eq_some_iff,grd_some,Bool.and_eq_true,Option.some.injEq]at h3
   obtain⟨kd,hkd,z,hz,⟨⟨s1,s2⟩,s3⟩,rfl⟩:=h3
   obtain⟨m,hb,ex⟩:=(ev_rel hg hf h1).inv_map
   have ek:=(ev_rel hg hf h2).inv_scalar s2
   obtain⟨h,hv,H⟩:=Hq m hb
   simp only[RQ.run,Option.bind_eq_some_iff]at hv
   obtain⟨⟨es,clock⟩,h4,h5⟩:=hv
   obtain⟨o1,o2,k1,k2,k3⟩:=H
   have hm:h.get r=some (.map es clock):=by
    unfold mapAt at h4;split at h4<;>simp at h4
    obtain⟨rfl,rfl⟩:=h4;assumption
   simp only[RQ.blk]at k1 k3;rw[hm]at k1;cases k1
   cases k3 with
   |map hs=>
    rename_i es'
    have hgo:=run_getObj_map (P:=P) k2 (fun _ _ _=>by simp)
    simp only[lookIn,Option.bind_eq_some_iff,Option.some.injEq]at h5
    obtain⟨fr,h6,h7⟩:=h5
    obtain⟨fr',q1,q2,q3⟩:=findNow_rel hs h6
    have hzr:=VRel.refl_plain μ s3
    have hfk:(Instr.findKey kt k es'.toList).run P w= .ok fr' w:=by
     simp only[Instr.findKey,Sem.run_bind,g_under hE hkd w,Result.andThen_ok,q1,Sem.run_pure]
    have hck:=g_checkKey (P:=P) hE hkd s1 es'.isEmpty 9999 k w
    have fin:∀(u u':Value) (b:Bool),VRel μ u u'→VRel μ (bif ok then .tuple #[u,.bool b]else u) (if ok=true then .tuple #[u',.bool b]else u'):=by
     intro u u' b hu
     cases ok with
     |true=>simp only[cond_true,if_true];exact .tuple_of (by simpa using VRels.cons hu (.cons (.bool μ b) .nil))
     |false=>simpa using hu
    cases fr with
    |none=>
     have e:=q2 rfl;subst e
     simp only at h7;subst h7
     refine⟨_,fin z z false hzr,?_⟩
     simp only[execOp,Instr.lookup,Sem.run_bind,g_under hE hd w,Result.andThen_ok,ex,ek,hgo,Sem.run_pure,hck,hfk,g_zero hE hz w]
    |some jv=>
     obtain⟨v',e,hr⟩:=q3 jv.1 jv.2 rfl
     subst e
     simp only at h7;subst h7
     refine⟨_,fin jv.2 v' true hr,?_⟩
     simp only[execOp,Instr.lookup,Sem.run_bind,g_under hE hd w,Result.andThen_ok,ex,ek,hgo,Sem.run_pure,hck,hfk]
  ·cases h3
 case call c=>
  simp only[aread]at hq
  split at hq
  ·rename_i t ts hcal htys
   simp only[Option.bind_eq_some_iff]at hq
   obtain⟨d,hd,args,h1,h2⟩:=hq
   split at h2
   ·rename_i kt et r rest
    simp only[Option.some.injEq]at h2;subst h2
    have hr:=evs_rel hg hf h1
    cases hr':c.args.toList.map a.eval with
    |nil=>rw[hr']at hr;cases hr
    |cons u us=>
     rw[hr']at hr
     cases hr with
     |cons hx _=>
      obtain⟨m,hb,rfl⟩:=hx.inv_map
      obtain⟨h,hv,H⟩:=Hq m hb
      simp only[RQ.run,Option.bind_eq_some_iff,Option.some.injEq]at hv
      obtain⟨⟨es,clock⟩,h4,rfl⟩:=hv
      obtain⟨o1,o2,k1,k2,k3⟩:=H
      have hm:h.get r=some (.map es clock):=by
       unfold mapAt at h4;split at h4<;>simp at h4
       obtain⟨rfl,rfl⟩:=h4;assumption
      simp only[RQ.blk]at k1 k3;rw[hm]at k1;cases k1
      cases k3 with
      |map hs=>
       rename_i es'
       have hgo:=run_getObj_map (P:=P) k2 (fun _ _ _=>by simp)
       have e0:(c.args.map a.eval)[0]? =some (.map (some m.r)):=by
        have:(c.args.map a.eval).toList= .map (some m.r)::us:=by simpa using hr'
        rw[←Array.getElem?_toList,this];rfl
       have e1:c.argTypes[0]? =some t:=by rw[←Array.getElem?_toList,htys];rfl
       refine⟨goInt es'.size,?_,?_⟩
       ·have:=hs.length
        simp only[Array.length_toList]at this
        rw[this];exact .int μ _ _
       ·simp only[execOp,resolve,hcal,Sem.run_bind,Sem.run_pure,Result.andThen_ok,invoke,builtin,Builtin.len_,e0,e1,g_under hE hd w,hgo]
   ·cases h2
  ·cases hq
 all_goals(simp only[aread]at hq;cases hq)
def Same (o:Oper) (f f':AF):Prop:=∀t,Operand.tmp t∈o.op.operands→f.get t=f'.get t
theorem ev_same {f f':AF} {x:Operand} (h:∀t,x= .tmp t→f.get t=f'.get t):ev E f x=ev E f' x:=by
 cases x<;>simp only[ev]
 rw[h _ rfl]
theorem evs_same {f f':AF}:∀{xs:List Operand},(∀t,Operand.tmp t∈xs→f.get t=f'.get t)→evs E f xs=evs E f' xs
 |[],_=>rfl
 |x::l,h=>by
  simp only[evs]
  rw[ev_same (fun t e=>h t (by rw[e];exact List.mem_cons_self)),evs_same fun t ht=>h t (List.mem_cons_of_mem _ ht)]
theorem evParts_same {f f':AF}:∀{xs:List (Nat×Operand)},(∀t,Operand.tmp t∈xs.map (·.2)→f.get t=f'.get t)→evParts E f xs=evParts E f' xs
 |[],_=>rfl
 |(i,x)::l,h=>by
  simp only[evParts]
  rw[ev_same (fun t e=>h t (by rw[e];exact List.mem_cons_self)),evParts_same fun t ht=>h t (List.mem_cons_of_mem _ ht)]
theorem evOpt_same {f f':AF} {x:Option Operand} (h:∀t,x=some (.tmp t)→f.get t=f'.get t):evOpt E f x=evOpt E f' x:=by
 cases x<;>simp only[evOpt]
 rw[ev_same fun t e=>h t (by rw[e])]
theorem apure_same {f f':AF} {o:Oper} (h:Same o f f'):apure E f o=apure E f' o:=by
 obtain⟨dst,op,type,pos,after,guard⟩:=o
 unfold Same at h
 cases op<;>simp only[Op.operands]at h<;>simp only[apure]
 case call c=>
  have h2:∀t,Operand.tmp t∈c.args.toList→f.get t=f'.get t:=fun t ht=>h t (by simp[Call.operands]at ht ⊢;exact .inr ht)
  rw[evs_same h2]
 case makeFunc fn first captured=>
  rw[evs_same (xs:=first.toList) fun t ht=>h t (by simp at ht ⊢;exact .inl ht),evs_same (xs:=captured.toList) fun t ht=>h t (by simp at ht ⊢;exact .inr ht)]
 case build t ps=>rw[evParts_same fun t ht=>h t (by simpa using ht)]
 case slice t x lo hi mx=>
  rw[ev_same fun t e=>h t (by simp[e]),evOpt_same (x:=lo) fun t e=>h t (by simp[e]),evOpt_same (x:=hi) fun t e=>h t (by simp[e]),evOpt_same (x:=mx) fun t e=>h t (by simp[e])]
 case pick c x y=>rw[ev_same (x:=c) fun t e=>h t (by simp[e]),ev_same (x:=x) fun t e=>h t (by simp[e]),ev_same (x:=y) fun t e=>h t (by simp[e])]
 case binOp op t x y z=>rw[ev_same (x:=x) fun t e=>h t (by simp[e]),ev_same (x:=y) fun t e=>h t (by simp[e])]
 case indexAddr t x y=>rw[ev_same (x:=x) fun t e=>h t (by simp[e]),ev_same (x:=y) fun t e=>h t (by simp[e])]
 case index t x y=>rw[ev_same (x:=x) fun t e=>h t (by simp[e]),ev_same (x:=y) fun t e=>h t (by simp[e])]
 case lookup t x y k=>rw[ev_same (x:=x) fun t e=>h t (by simp[e]),ev_same (x:=y) fun t e=>h t (by simp[e])]
 all_goals first|rfl |(rw[ev_same fun t e=>h t (by simp[e])])
theorem aread_same {f f':AF} {o:Oper} (h:Same o f f'):aread E f o=aread E f' o:=by
 obtain⟨dst,op,type,pos,after,guard⟩:=o
 unfold Same at h
 cases op<;>simp only[Op.operands]at h<;>simp only[aread]
 case call c=>
  have h2:∀t,Operand.tmp t∈c.args.toList→f.get t=f'.get t:=fun t ht=>h t (by simp[Call.operands]at ht ⊢;exact .inr ht)
  rw[evs_same h2]
 case lookup t x y k=>rw[ev_same (x:=x) fun t e=>h t (by simp[e]),ev_same (x:=y) fun t e=>h t (by simp[e])]
 all_goals first|rfl |(rw[ev_same fun t e=>h t (by simp[e])])
theorem aalloc_same {f f':AF} {o:Oper} (h:Same o f f'):aalloc E f o=aalloc E f' o:=by
 obtain⟨dst,op,type,pos,after,guard⟩:=o
 unfold Same at h
 cases op<;>simp only[Op.operands]at h<;>simp only[aalloc]
 case buildSlice t n ps=>rw[evParts_same fun t ht=>h t (by simpa using ht)]
 case makeMap t r=>cases r<;>rfl
 case makeSlice t x y=>rw[ev_same (x:=x) fun t e=>h t (by simp[e]),ev_same (x:=y) fun t e=>h t (by simp[e])]
 all_goals first|rfl |(rw[ev_same fun t e=>h t (by simp[e])])
theorem aeff_same {f f':AF} {o:Oper} (h:Same o f f') (k:AHeap):aeff E base f o k=aeff E base f' o k:=by
 obtain⟨dst,op,type,pos,after,guard⟩:=o
 unfold Same at h
 cases op<;>simp only[Op.operands]at h<;>simp only[aeff]
 case call c=>
  have h2:∀t,Operand.tmp t∈c.args.toList→f.get t=f'.get t:=fun t ht=>h t (by simp[Call.operands]at ht ⊢;exact .inr ht)
  rw[evs_same h2]
  cases hc:c.callee with
  |value g=>
   have h3:∀t,g= .tmp t→f.get t=f'.get t:=fun t ht=>h t (by simp[Call.operands,hc,ht])
   simp only
   rw[ev_same h3]
  |builtin b=>rfl
  |invoke r m=>rfl
 case store t x y=>rw[ev_same (x:=x) fun t e=>h t (by simp[e]),ev_same (x:=y) fun t e=>h t (by simp[e])]
 case mapUpdate t x y z|insert t x y z=>rw[ev_same (x:=x) fun t e=>h t (by simp[e]),ev_same (x:=y) fun t e=>h t (by simp[e]),ev_same (x:=z) fun t e=>h t (by simp[e])]
 all_goals first|rfl |(rw[ev_same fun t e=>h t (by simp[e])])
theorem runOp_same {f f':AF} {o:Oper} (h:Same o f f') (k:AHeap) (cf:CallF) (rf:RoundF):runOp E base cf rf o f k=runOp E base cf rf o f' k:=by
 unfold runOp
 rw[apure_same h,aread_same h,aalloc_same h,aeff_same h]
def AF.only (f:AF) (l:List Nat):AF:=⟨l.foldl (fun tr t=>tr.set t (f.get t)) .nil,f.n⟩
theorem AF.get_only (f:AF) (l:List Nat) (t:Nat):(f.only l).get t=if t∈l then f.get t else undef:=by
 have key:∀(l:List Nat) (tr:Tr Value),(∀t,tr.get t=none∨tr.get t=some (f.get t))→∀t,(l.foldl (fun tr t=>tr.set t (f.get t)) tr).get t=if t∈l then some (f.get t)else tr.get t:=by
  intro l
  induction l with
  |nil=>intro tr _ t;simp
  |cons x l ih=>
   intro tr htr t
   simp only[List.foldl_cons]
   have h0:∀t,(tr.set x (f.get x)).get t=none∨(tr.set x (f.get x)).get t=some (f.get t):=fun t=>by
    rw[Tr.get_set]
    by_cases e:t=x
    ·subst e;rw[if_pos rfl];exact .inr rfl
    ·rw[if_neg e];exact htr t
   rw[ih _ h0 t,Tr.get_set]
   by_cases h1:t∈l
   ·simp[h1]
   ·by_cases h2:t=x
    ·subst h2;simp
    ·simp[h1,h2]
 have e:(f.only l).get t=(match(l.foldl (fun(tr:Tr Value) t=>tr.set t (f.get t)) Tr.nil).get t with|some v=>v|none=>undef):=rfl
 rw[e,key l .nil (fun _=>.inl rfl) t,Tr.get_nil]
 by_cases ht:t∈l
 ·rw[if_pos ht,if_pos ht]
 ·rw[if_neg ht,if_neg ht]
def onlyT (tmps:Array Value) (l:List Nat):Array Value:=(Array.range tmps.size).map fun t=>if t∈l then tmps.getD t undef else undef
theorem onlyT_size (tmps:Array Value) (l:List Nat):(onlyT tmps l).size=tmps.size:=by simp[onlyT]
theorem onlyT_get (tmps:Array Value) (l:List Nat) (t:Nat):(onlyT tmps l).getD t undef=if t∈l then tmps.getD t undef else undef:=by
 by_cases ht:t<tmps.size
 ·simp[onlyT,ht]
 ·simp[onlyT,ht]
def onlyA (a:Act) (l:List Nat):Act:={a with tmps:=onlyT a.tmps l}
theorem only_rel {f:AF} {a:Act} {l:List Nat} (hn:a.tmps.size=f.n) (h:∀t∈l,VRel μ (f.get t) (a.tmps.getD t undef)):FRel μ (f.only l) (onlyA a l).tmps:=by
 refine⟨?_,fun t=>?_⟩
 ·show f.n=(onlyT a.tmps l).size
  rw[onlyT_size];exact hn.symm
 ·show VRel μ _ ((onlyT a.tmps l).getD t undef)
  rw[AF.get_only,onlyT_get]
  split
  ·exact h t ‹_›
  ·exact .undef μ
theorem mem_looks_tmp {ops:List Oper} {o:Oper} {t:Nat} (h:Operand.tmp t∈o.op.operands):t∈looks ops o:=by
 unfold looks
 exact List.mem_append_left _ (List.mem_filterMap.2 ⟨.tmp t,by simpa using h,rfl⟩)
theorem mem_looks_guard {ops:List Oper} {o:Oper} {g:Nat} {want:Bool} {t:Nat} (h:o.guard=some (g,want)) (h2:(ops[g]?).bind (·.dst)=some t):t∈looks ops o:=by
 unfold looks
 rw[h];simp[h2]
theorem only_same (ops:List Oper) (o:Oper) (f:AF):Same o (f.only (looks ops o)) f:=fun t ht=>by
 rw[AF.get_only,if_pos (mem_looks_tmp ht)]
theorem only_wanted (ops:List Oper) (o:Oper) (f:AF):wanted ops o (f.only (looks ops o))=wanted ops o f:=by
 unfold wanted
 cases hg:o.guard with
 |none=>rfl
 |some gw=>
  obtain⟨g,want⟩:=gw
  simp only
  cases hd:(ops[g]?).bind (·.dst)with
  |none=>rfl
  |some t=>
   simp only
   rw[AF.get_only,if_pos (mem_looks_guard hg hd)]
theorem only_eval {ops:List Oper} {o:Oper} {a:Act} {x:Operand} (h:x∈o.op.operands):a.eval x=(onlyA a (looks ops o)).eval x:=by
 cases x with
 |tmp t=>
  have:=onlyT_get a.tmps (looks ops o) t
  rw[if_pos (mem_looks_tmp h)]at this
  show a.tmps.getD t undef=(onlyT a.tmps (looks ops o)).getD t undef
  exact this.symm
 |_=>rfl
theorem only_exec {ops:List Oper} {o:Oper} {a:Act} (hs:∀cs b,o.op≠ .select cs b):execOp a.eval o=execOp (onlyA a (looks ops o)).eval o:=
 execOp_congr o hs fun _ hx=>only_eval hx
theorem only_yielded {ops:Array Oper} {o:Oper} {a:Act}:Region.wanted o (yielded ops (onlyA a (looks ops.toList o)).tmps)=Region.wanted o (yielded ops a.tmps):=by
 unfold Region.wanted
 cases hg:o.guard with
 |none=>rfl
 |some gw=>
  obtain⟨g,want⟩:=gw
  simp only
  congr 1
  unfold yielded
  cases hd:(ops[g]?).bind (·.dst)with
  |none=>simp
  |some t=>
   simp only[Option.bind_some]
   have hm:t∈looks ops.toList o:=mem_looks_guard hg (by simpa using hd)
   show(match(onlyT a.tmps (looks ops.toList o))[t]? with|some (.bool b)=>some b|_=>none)=_
   by_cases ht:t<a.tmps.size
   ·have h1:(onlyT a.tmps (looks ops.toList o))[t]? =a.tmps[t]? :=by
     simp[onlyT,ht,hm]
    rw[h1]
    rfl
   ·have e1:a.tmps[t]? =none:=Array.getElem?_eq_none (Nat.le_of_not_lt ht)
    have e2:(onlyT a.tmps (looks ops.toList o))[t]? =none:=Array.getElem?_eq_none (by rw[onlyT_size];exact Nat.le_of_not_lt ht)
    rw[e1,e2]
theorem noSelect {cf:CallF} {rf:RoundF} {o:Oper} {r:OpR} {k:AHeap} (h:runOp E base cf rf o f k=some r):∀cs b,o.op≠ .select cs b:=by
 intro cs b hc
 unfold runOp at h
 simp only[apure,aread,aalloc,aeff,hc]at h
 cases h
end
end Go.M
namespace Go.M
open Go
section
variable {E:Env} {base:Nat} {cf:CallF} {rf:RoundF}
theorem runOp_cases {o:Oper} {f:AF} {h:AHeap} {r:OpR} (hr:runOp E base cf rf o f h=some r):
 (apure E f o=some r.v∧r.h=h∧r.log= .pure)∨
 (∃q,aread E f o=some q∧q.run h=some r.v∧r.h=h∧r.log= .rd q h)∨
 (∃md hd,aalloc E f o=some (md,hd)∧r.v=hd.val h.size∧r.h=h.push (md.obj h.size)∧r.log= .alloc h r.h)∨
 r.log= .eff h r.h:=by
 unfold runOp at hr
 split at hr
 ·simp only[Option.some.injEq]at hr;subst hr
  exact .inl ⟨by assumption,rfl,rfl⟩
 ·split at hr
  ·simp only[Option.bind_eq_some_iff,Option.some.injEq]at hr
   obtain⟨v,hv,rfl⟩:=hr
   exact .inr (.inl ⟨_,by assumption,hv,rfl,rfl⟩)
  ·split at hr
   ·simp only[Option.some.injEq]at hr;subst hr
    exact .inr (.inr (.inl ⟨_,_,by assumption,rfl,rfl,rfl⟩))
   ·split at hr
    ·simp only[Option.some.injEq]at hr;subst hr
     rename_i he
     refine .inr (.inr (.inr rfl))
    ·simp only[Option.bind_eq_some_iff,Option.some.injEq]at hr
     obtain⟨x,_,rfl⟩:=hr
     exact .inr (.inr (.inr rfl))
    ·simp only[Option.bind_eq_some_iff,Option.some.injEq]at hr
     obtain⟨x,_,rfl⟩:=hr
     exact .inr (.inr (.inr rfl))
    ·cases hr
structure Trace (E:Env) (base:Nat) (cf:CallF) (rf:RoundF) (all ops:List Oper) (fs:Nat→AF) (hs:Nat→AHeap) (vs:Nat→Value) (lg:Nat→LogE):Prop where
 put:∀j o,ops[j]? =some o→fs (j+1)=(fs j).put o.dst (vs j)
 run:∀j o,ops[j]? =some o→(wanted all o (fs j)=true∧runOp E base cf rf o (fs j) (hs j)=some ⟨vs j,hs (j+1),lg j⟩)∨(wanted all o (fs j)=false∧vs j=undef∧hs (j+1)=hs j∧lg j= .pure)
theorem trace_of {all:List Oper}:∀{ops:List Oper} {f:AF} {h:AHeap} {f':AF} {h':AHeap} {logs:List LogE},aopsL E base cf rf all ops f h=some (f',h',logs)→
 ∃fs hs vs lg,Trace E base cf rf all ops fs hs vs lg∧fs 0=f∧hs 0=h∧fs ops.length=f'∧hs ops.length=h'∧∀j,j<ops.length→logs[j]? =some (lg j)
 |[],f,h,f',h',logs,hr=>by
  simp only[aopsL,Option.some.injEq,Prod.mk.injEq]at hr
  obtain⟨rfl,rfl,rfl⟩:=hr
  exact⟨fun _=>f,fun _=>h,fun _=>undef,fun _=>.pure,⟨fun j o ho=>by simp at ho,fun j o ho=>by simp at ho⟩,rfl,rfl,rfl,rfl,fun j hj=>by simp at hj⟩
 |o::ops,f,h,f',h',logs,hr=>by
  simp only[aopsL]at hr
  have fin:∀(v:Value) (h1:AHeap) (l1:LogE) (f1:AF) (h2:AHeap) (l2:List LogE),aopsL E base cf rf all ops (f.put o.dst v) h1=some (f1,h2,l2)→
   ((wanted all o f=true∧runOp E base cf rf o f h=some ⟨v,h1,l1⟩)∨(wanted all o f=false∧v=undef∧h1=h∧l1= .pure))→
   ∃fs hs vs lg,Trace E base cf rf all (o::ops) fs hs vs lg∧fs 0=f∧hs 0=h∧fs (o::ops).length=f1∧hs (o::ops).length=h2∧∀j,j<(o::ops).length→(l1::l2)[j]? =some (lg j):=by
   intro v h1 l1 f1 h2 l2 hrun hk
   obtain⟨fs,hs,vs,lg,T,e1,e2,e3,e4,e5⟩:=trace_of hrun
   refine⟨fun |0=>f|j+1=>fs j,fun |0=>h|j+1=>hs j,fun |0=>v|j+1=>vs j,fun |0=>l1|j+1=>lg j,⟨?_,?_⟩,rfl,rfl,e3,e4,?_⟩
   ·intro j p hp
    cases j with
    |zero=>simp at hp;subst hp;exact e1
    |succ j=>exact T.put j p (by simpa using hp)
   ·intro j p hp
    cases j with
    |zero=>simp at hp;subst hp;simpa[e2]using hk
    |succ j=>exact T.run j p (by simpa using hp)
   ·intro j hj
    cases j with
    |zero=>rfl
    |succ j=>simpa using e5 j (by simpa using hj)
  split at hr
  ·rename_i hw
   simp only[Option.bind_eq_some_iff,Option.some.injEq,Prod.mk.injEq]at hr
   obtain⟨r,hr1,⟨f1,h2,l2⟩,hr2,rfl,rfl,rfl⟩:=hr
   exact fin _ _ _ _ _ _ hr2 (.inl ⟨hw,by rw[hr1]⟩)
  ·rename_i hw
   simp only[Option.bind_eq_some_iff,Option.some.injEq,Prod.mk.injEq]at hr
   obtain⟨⟨f1,h2,l2⟩,hr2,rfl,rfl,rfl⟩:=hr
   exact fin _ _ _ _ _ _ hr2 (.inr ⟨hw,rfl,rfl,rfl⟩)
def bitF (acc:List Nat) (s:Nat) (e:Edge):Nat:=match Region.binds .any e with|true=>s|||2 ^ e.on|||acc.getD e.on 0|false=>s
theorem befores_cons (p:Oper) (l:List Oper) (acc:List Nat):befores (p::l) acc=befores l (acc++[p.after.toList.foldl (bitF acc) 0]):=rfl
theorem foldl_bits (acc:List Nat) (b:Nat):∀(es:List Edge) (s:Nat),(es.foldl (bitF acc) s).testBit b=true→
 s.testBit b=true∨∃e∈es,Region.binds .any e=true∧(b=e.on∨(acc.getD e.on 0).testBit b=true)
 |[],s,h=>.inl h
 |e::es,s,h=>by
  simp only[List.foldl_cons]at h
  rcases foldl_bits acc b es _ h with h1|⟨e',h1,h2⟩
  ·unfold bitF at h1
   cases hb:Region.binds .any e with
   |false=>rw[hb]at h1;exact .inl h1
   |true=>
    rw[hb]at h1
    simp only[Nat.testBit_or,Bool.or_eq_true,Nat.testBit_two_pow,decide_eq_true_eq]at h1
    rcases h1 with (h1|h1)|h1
    ·exact .inl h1
    ·exact .inr ⟨e,List.mem_cons_self,hb,.inl h1.symm⟩
    ·exact .inr ⟨e,List.mem_cons_self,hb,.inr h1⟩
  ·exact .inr ⟨e',List.mem_cons_of_mem _ h1,h2⟩
theorem befores_spec:∀(l:List Oper) (acc:List Nat),∃ys,befores l acc=acc++ys∧∀i o,l[i]? =some o→∀b,((acc++ys).getD (acc.length+i) 0).testBit b=true→
 ∃e∈o.after.toList,Region.binds .any e=true∧(b=e.on∨(e.on<acc.length+i∧((acc++ys).getD e.on 0).testBit b=true))
 |[],acc=>⟨[],by simp[befores],fun i o h=>by simp at h⟩
 |p::l,acc=>by
  obtain⟨ys,h1,h2⟩:=befores_spec l (acc++[p.after.toList.foldl (bitF acc) 0])
  refine⟨(p.after.toList.foldl (bitF acc) 0)::ys,by rw[befores_cons,h1];simp,fun i o ho b hb=>?_⟩
  cases i with
  |zero=>
   simp at ho;subst ho
   have e0:(acc++(p.after.toList.foldl (bitF acc) 0)::ys).getD (acc.length+0) 0=(p.after.toList.foldl (bitF acc) 0):=by
    simp[List.getD]
   rw[e0]at hb
   rcases foldl_bits _ _ _ _ hb with hz|⟨e,k1,k2,k3⟩
   ·simp at hz
   ·refine⟨e,k1,k2,?_⟩
    rcases k3 with k3|k3
    ·exact .inl k3
    ·by_cases hlt:e.on<acc.length
     ·refine .inr ⟨by omega,?_⟩
      rw[←k3]
      simp[List.getD,List.getElem?_append_left hlt]
     ·simp[List.getD,List.getElem?_eq_none (Nat.le_of_not_lt hlt)]at k3
  |succ i=>
   have:=h2 i o (by simpa using ho) b (by simpa[Nat.add_assoc,Nat.add_comm 1 i]using hb)
   simpa[Nat.add_assoc,Nat.add_comm 1 i]using this
theorem befores_bit {ops:List Oper} {i:Nat} {o:Oper} (ho:ops[i]? =some o) {b:Nat} (hb:((befores ops []).getD i 0).testBit b=true):
 ∃e∈o.after.toList,Region.binds .any e=true∧(b=e.on∨(e.on<i∧((befores ops []).getD e.on 0).testBit b=true)):=by
 obtain⟨ys,h1,h2⟩:=befores_spec ops []
 simp only[List.nil_append,List.length_nil,Nat.zero_add]at h1 h2
 rw[h1]at hb ⊢
 exact h2 i o ho b hb
theorem slotsOk1_get {ops:List Oper} {bs:List Nat} {i:Nat} {o:Oper}:∀{l:List Oper} {j0:Nat},slotsOk1 ops bs i o j0 l=true→∀k p,l[k]? =some p→i≠j0+k→∀d,p.dst=some d→o.dst≠some d∧(d∈looks ops o→ordered bs i (j0+k)=true)
 |[],j0,_,k,p,hp,_,d,_=>by simp at hp
 |q::l,j0,h,k,p,hp,hne,d,hd=>by
  simp only[slotsOk1,Bool.and_eq_true,Bool.or_eq_true,beq_iff]at h
  obtain⟨h1,h2⟩:=h
  cases k with
  |zero=>
   simp at hp;subst hp
   rcases h1 with h1|h1
   ·exact absurd h1 hne
   ·rw[hd]at h1
    simp only[Bool.and_eq_true,bne_iff_ne,Bool.or_eq_true,Bool.not_eq_true']at h1
    refine⟨h1.1,fun hm=>?_⟩
    rcases h1.2 with h3|h3
    ·have:(looks ops o).contains d=true:=by simpa using hm
     rw[this]at h3;cases h3
    ·exact h3
  |succ k=>
   have:=slotsOk1_get h2 k p (by simpa using hp) (by omega) d hd
   rw[show j0+(k+1)=j0+1+k by omega];exact this
theorem slotsOk_get {ops:List Oper} {bs:List Nat}:∀{l:List Oper} {i0:Nat},slotsOk ops bs i0 l=true→∀k o,l[k]? =some o→slotsOk1 ops bs (i0+k) o 0 ops=true∧∀e∈o.after.toList,Region.binds .any e=true→e.on<i0+k
 |[],i0,_,k,o,ho=>by simp at ho
 |q::l,i0,h,k,o,ho=>by
  simp only[slotsOk,Bool.and_eq_true,List.all_eq_true,Bool.or_eq_true,Bool.not_eq_true',blt_iff]at h
  obtain⟨⟨h1,h2⟩,h3⟩:=h
  cases k with
  |zero=>
   simp at ho;subst ho
   refine⟨h1,fun e he hb=>?_⟩
   rcases h2 e he with h4|h4
   ·rw[hb]at h4;cases h4
   ·exact h4
  |succ k=>
   have:=slotsOk_get h3 k o (by simpa using ho)
   rw[show i0+(k+1)=i0+1+k by omega];exact this
structure TextOk (ops:List Oper):Prop where
 edge:∀(i:Nat) (o:Oper),ops[i]? =some o→∀e∈o.after.toList,Region.binds .any e=true→e.on<i
 one:∀(i j:Nat) (o p:Oper) (d:Tmp),ops[i]? =some o→ops[j]? =some p→i≠j→p.dst=some d→o.dst≠some d
 look:∀(i j:Nat) (o p:Oper) (d:Tmp),ops[i]? =some o→ops[j]? =some p→i≠j→p.dst=some d→d∈looks ops o→ordered (befores ops []) i j=true
theorem textOk {ops:List Oper} (h:staticOk ops=true):TextOk ops:=by
 have key:=fun i o ho=>slotsOk_get (l:=ops) (i0:=0) h i o ho
 simp only[Nat.zero_add]at key
 have k2:=fun i o ho j p (hp:ops[j]? =some p)=>slotsOk1_get (l:=ops) (j0:=0) (key i o ho).1 j p hp
 simp only[Nat.zero_add]at k2
 exact⟨fun i o ho=>(key i o ho).2,fun i j o p d ho hp hne hd=>(k2 i o ho j p hp hne d hd).1,fun i j o p d ho hp hne hd hm=>(k2 i o ho j p hp hne d hd).2 hm⟩
theorem bit_lt {ops:List Oper} (T:TextOk ops):∀(j:Nat) (o:Oper),ops[j]? =some o→∀b,((befores ops []).getD j 0).testBit b=true→b<j:=by
 intro j
 induction j using Nat.strongRecOn with
 |ind j ih=>
  intro o ho b hb
  obtain⟨e,h1,h2,h3⟩:=befores_bit ho hb
  have hlt:=T.edge j o ho e h1 h2
  rcases h3 with rfl |⟨h3,h4⟩
  ·exact hlt
  ·have hlen:j<ops.length:=(List.getElem?_eq_some_iff.1 ho).1
   have:=ih e.on h3 _ (List.getElem?_eq_getElem (by omega)) b h4
   omega
def Ready (_:List Oper) (L:Nat→Bool) (o:Oper):Prop:=∀e∈o.after.toList,Region.binds .any e=true→L e.on=true
def Closed (ops:List Oper) (L:Nat→Bool):Prop:=∀j o,ops[j]? =some o→L j=true→Ready ops L o
theorem bit_listed {ops:List Oper} {L:Nat→Bool} (C:Closed ops L):∀(j:Nat) (o:Oper),ops[j]? =some o→Ready ops L o→∀b,((befores ops []).getD j 0).testBit b=true→L b=true:=by
 intro j
 induction j using Nat.strongRecOn with
 |ind j ih=>
  intro o ho hr b hb
  obtain⟨e,h1,h2,h3⟩:=befores_bit ho hb
  have hl:=hr e h1 h2
  rcases h3 with rfl |⟨h3,h4⟩
  ·exact hl
  ·have hlen:j<ops.length:=(List.getElem?_eq_some_iff.1 ho).1
   have h5:=List.getElem?_eq_getElem (l:=ops) (i:=e.on) (by omega)
   exact ih e.on h3 _ h5 (C _ _ h5 hl) b h4
theorem ordered_listed {ops:List Oper} (T:TextOk ops) {L:Nat→Bool} (C:Closed ops L) {i j:Nat} (hij:i<j) {o:Oper} (ho:ops[j]? =some o) (hr:Ready ops L o) (h:ordered (befores ops []) i j=true∨ordered (befores ops []) j i=true):L i=true:=by
 have hlen:j<ops.length:=(List.getElem?_eq_some_iff.1 ho).1
 have h5:=List.getElem?_eq_getElem (l:=ops) (i:=i) (by omega)
 have:((befores ops []).getD j 0).testBit i=true:=by
  unfold ordered at h
  simp only[Bool.or_eq_true]at h
  rcases h with (h|h)|(h|h)
  ·exact h
  ·have:=bit_lt T i _ h5 j h;omega
  ·have:=bit_lt T i _ h5 j h;omega
  ·exact h
 exact bit_listed C j o ho hr i this
theorem allPass1_get {bs:List Nat} {i:Nat} {x:LogE}:∀{l:List LogE} {j0:Nat},allPass1 bs i x j0 l=true→∀k y,l[k]? =some y→mayPass bs i x (j0+k) y=true
 |[],_,_,k,y,h=>by simp at h
 |z::l,j0,h,k,y,hy=>by
  simp only[allPass1,Bool.and_eq_true]at h
  cases k with
  |zero=>simp at hy;subst hy;exact h.1
  |succ k=>
   have:=allPass1_get h.2 k y (by simpa using hy)
   rw[show j0+(k+1)=j0+1+k by omega];exact this
theorem allPass_get {bs:List Nat}:∀{l:List LogE} {i0:Nat},allPass bs i0 l=true→(∀(i:Nat) (x:LogE),l[i]? =some x→growsL x=true)∧∀(i j:Nat) (x y:LogE),i<j→l[i]? =some x→l[j]? =some y→mayPass bs (i0+i) x (i0+j) y=true
 |[],_,_=>⟨fun i x h=>by simp at h,fun i j x y _ h=>by simp at h⟩
 |z::l,i0,h=>by
  simp only[allPass,Bool.and_eq_true]at h
  obtain⟨⟨h1,h2⟩,h3⟩:=h
  obtain⟨k1,k2⟩:=allPass_get h3
  refine⟨fun i x hx=>?_,fun i j x y hij hx hy=>?_⟩
  ·cases i with
   |zero=>simp at hx;subst hx;exact h1
   |succ i=>exact k1 i x (by simpa using hx)
  ·cases j with
   |zero=>omega
   |succ j=>
    cases i with
    |zero=>
     simp at hx;subst hx
     have:=allPass1_get h2 j y (by simpa using hy)
     rw[show i0+(j+1)=i0+1+j by omega];exact this
    |succ i=>
     have:=k2 i j x y (by omega) (by simpa using hx) (by simpa using hy)
     rw[show i0+(i+1)=i0+1+i by omega,show i0+(j+1)=i0+1+j by omega];exact this
variable {all ops:List Oper} {fs:Nat→AF} {hs:Nat→AHeap} {vs:Nat→Value} {lg:Nat→LogE}
theorem Trace.fs_n (T:Trace E base cf rf all ops fs hs vs lg):∀k,k≤ops.length→(fs k).n=(fs 0).n:=by
 intro k
 induction k with
 |zero=>intro _;rfl
 |succ k ih=>
  intro hk
  rw[T.put k _ (List.getElem?_eq_getElem (by omega)),AF.n_put,ih (by omega)]
theorem AF.get_put (f:AF) (d:Option Tmp) (v:Value) (t:Nat):(f.put d v).get t=if d=some t∧t<f.n then v else f.get t:=by
 cases d with
 |none=>simp[AF.put]
 |some d=>
  simp only[AF.put,AF.get_set,Option.some.injEq]
  by_cases e:t=d
  ·subst e;simp
  ·have:d≠t:=fun h=>e h.symm
   simp[e,this]
theorem Trace.fs_old (T:Trace E base cf rf all ops fs hs vs lg) (t:Nat):∀k,k≤ops.length→(∀j o,j<k→ops[j]? =some o→o.dst≠some t)→(fs k).get t=(fs 0).get t:=by
 intro k
 induction k with
 |zero=>intro _ _;rfl
 |succ k ih=>
  intro hk hno
  rw[T.put k _ (List.getElem?_eq_getElem (by omega)),AF.get_put,if_neg (fun h=>hno k _ (by omega) (List.getElem?_eq_getElem (by omega)) h.1),ih (by omega) fun j o hj ho=>hno j o (by omega) ho]
theorem Trace.fs_new (T:Trace E base cf rf all ops fs hs vs lg) (X:TextOk ops) {t:Nat} (ht:t<(fs 0).n) {j:Nat} {o:Oper} (ho:ops[j]? =some o) (hd:o.dst=some t):∀k,k≤ops.length→j<k→(fs k).get t=vs j:=by
 intro k
 induction k with
 |zero=>intro _ h;omega
 |succ k ih=>
  intro hk hjk
  have hk0:=List.getElem?_eq_getElem (l:=ops) (i:=k) (by omega)
  rw[T.put k _ hk0,AF.get_put]
  by_cases e:j=k
  ·subst e
   rw[hk0]at ho;cases ho
   rw[if_pos ⟨hd,by rw[T.fs_n j (by omega)];exact ht⟩]
  ·rw[if_neg (fun h=>X.one k j _ o t hk0 ho (fun h=>e h.symm) hd h.1),ih (by omega) (by omega)]
end
end Go.M
namespace Go.M
open Go
section
variable {P:Program} {E:Env} {μ:Emb} {f:AF} {a:Act} {base B:Nat} {h:AHeap} {w:World} {cf:CallF} {rf:RoundF}
theorem op_simA (hE:EnvOk P E) (hcf:CallOk P E base B cf) (hrf:RoundOk P E base B rf) (hcF:CallFun E cf) (hrF:RoundFun rf) {F:Fence} (hF:Wide F) {n:Nat} (hf:FRel μ f a.tmps) (H:HRel E base B μ h w) {o:Oper} {r:OpR} (hr:runOp E base cf rf o f h=some r) {a1:Act} (hex:execOp a1.eval o=execOp a.eval o)
 {next:Act→World→Prop} {Q:Exit→Act→World→Prop} (hn:∀μ' v' w',VRel μ' r.v v'→Step E base B μ h w μ' r.h w'→next (a1.put o.dst v') w'):o.wpIn F n P a1 w next Q:=by
 have hg:GlobOk E μ:=H.glob
 refine⟨fun _ _=>hF.fn _,?_⟩
 rw[Oper.semAt_eq _ _ _ (noDefer hr),hex]
 unfold runOp at hr
 split at hr
 ·rename_i v hp
  simp only[Option.some.injEq]at hr;subst hr
  obtain⟨v',q1,q2⟩:=apure_sim hE hg hf hp
  rw[q2 w]
  exact hn μ v' w q1 (.refl H)
 ·split at hr
  ·rename_i q hq
   simp only[Option.bind_eq_some_iff,Option.some.injEq]at hr
   obtain⟨v,hv,rfl⟩:=hr
   obtain⟨v',q1,q2⟩:=aread_sim hE hf H hq hv
   rw[q2]
   exact hn μ v' w q1 (.refl H)
  ·split at hr
   ·rename_i md hd hal
    simp only[Option.some.injEq]at hr;subst hr
    obtain⟨o',k,hv,S⟩:=aalloc_sim hE hg hf hal
    rw[S.run w]
    have st:=Step.alloc (o:=md.obj h.size) H (Alc.mk' w o') k (fun cs f tip thr hh=>by cases md<;>simp[Made.obj]at hh;exact⟨hh.2.1.symm,hh.2.2.1.symm⟩) (S.obj _ _ _ _ _ (upd_le H.fresh))
    exact hn _ _ _ (S.val _ _ _ (upd_self _ _ _)) st
   ·split at hr
    ·rename_i v h' he
     simp only[Option.some.injEq]at hr;subst hr
     obtain⟨μ',nx,v',w',q1,q2,q3,q4⟩:=aeff_val hE hf H he
     rw[q1]
     rcases q2 with rfl |⟨rfl,rfl⟩
     ·exact hn μ' v' w' q3 q4
     ·exact hn μ' undef w' q3 q4
    ·rename_i g args h' he
     simp only[Option.bind_eq_some_iff,Option.some.injEq]at hr
     obtain⟨⟨v,h2⟩,hc,rfl⟩:=hr
     have hfun:=hcF _ _ _ _ hc
     obtain⟨args',e,q1,q2⟩:=aeff_enter hE hf H he hfun
     subst e
     rw[q2]
     refine⟨hF.ok n,(hcf μ h' w g args args' v h2 hc q1 H F (n - 1) hF).mono ?_⟩
     rintro e w' ⟨v',μ',rfl,k1,k2⟩
     exact hn μ' v' w' k1 k2
    ·rename_i l args h' he
     simp only[Option.bind_eq_some_iff,Option.some.injEq]at hr
     obtain⟨⟨v,h2⟩,hc,rfl⟩:=hr
     obtain⟨st,p,f0,ps,asg,body,hl,hlen⟩:=hrF _ _ _ _ hc
     have hh:h'=h:=by
      obtain⟨dst,op,type,pos,after,guard⟩:=o
      cases op<;>simp only[aeff]at he<;>first|cases he|skip
      all_goals simp only[Option.bind_eq_some_iff,Option.some.injEq,Prod.mk.injEq,grd_some,reduceCtorEq,false_and,and_false,exists_false]at he
      ·obtain⟨_,_,_,_,he⟩:=he
       split at he
       ·split at he<;>simp at he
       ·cases he
      ·obtain⟨_,_,he⟩:=he
       split at he
       ·first|(simp at he;done)|(obtain⟨_,_,he⟩:=he;simp at he;done)|(simp only[Option.bind_eq_some_iff]at he;obtain⟨_,_,he⟩:=he;cases he)
       ·try simp only[Option.bind_eq_some_iff]at he
        obtain⟨_,_,he⟩:=he
        split at he
        ·simp at he
        ·simp only[Option.some.injEq,Prod.mk.injEq]at he;exact he.2.symm
        ·cases he
       ·cases he
     subst hh
     obtain⟨m,args',lo,_,hb,hw,q1,q2,q3⟩:=aeff_round (P:=P) hf H he hl hlen
     rw[q2]
     refine⟨hF.ok n,(hrf μ h' w l args v h2 m f0 ps asg body st p lo.fn _ hc hl hb H (setAll_rel q3 q1) F (n - 1) hF).mono ?_⟩
     rintro e w' ⟨v',μ',rfl,k1,k2⟩
     exact hn μ' v' w' k1 k2
    ·cases hr
def cut (μ:Emb) (s:Nat):Emb:=fun b=>if b<s then μ b else none
theorem cut_some {μ:Emb} {s b:Nat} {m:MT}:cut μ s b=some m↔b<s∧μ b=some m:=by
 unfold cut;split<;>simp[*]
theorem cut_mono {μ μ':Emb} (h:μ.le μ') {s t:Nat} (hs:s≤t):(cut μ s).le (cut μ' t):=fun b m hb=>by
 have:=cut_some.1 hb
 exact cut_some.2 ⟨by omega,h _ _ this.2⟩
theorem le_cut {μ0 μ:Emb} (h:μ0.le μ) {s:Nat} (hd:∀b m,μ0 b=some m→b<s):μ0.le (cut μ s):=fun b m hb=>cut_some.2 ⟨hd b m hb,h b m hb⟩
theorem HRel.pushA (H:HRel E base B μ h w) {o:AObj} (hself:∀cs f tip thr,o= .cells cs f tip thr→f=h.size):HRel E base B μ (h.push o) w:=by
 refine⟨fun b m hb=>?_,fun c hc=>?_,fun c m hc=>?_,H.own,fun b1 b2 m1 m2 hb1 hb2 hr hne hbb=>?_,fun c m r hc hr=>?_,H.glob,H.low,?_,fun b cs f tip thr hb=>?_,fun c m cs thr hc hg=>?_⟩
 ·have:=H.dom b m hb;simp only[AHeap.size_push];omega
 ·simp only[AHeap.size_push]at hc
  rw[AHeap.get_push,if_neg (by omega)];exact H.high c (by omega)
 ·have h1:=H.dom c m hc
  obtain⟨p,p',k1,k2,k3⟩:=H.obj c m hc
  exact⟨p,p',by rw[AHeap.get_push,if_neg (by omega)];exact k1,k2,k3.mono μ.le_refl (by rw[rd_push H.wf o h1];exact id)⟩
 ·have h1:=H.dom _ _ hb1
  have k1:=H.dom _ _ hb2
  obtain⟨r,q1,q2,q3⟩:=H.alias b1 b2 m1 m2 hb1 hb2 hr hne hbb
  exact⟨r,by rw[fam_push H.wf o h1];exact q1,by rw[fam_push H.wf o k1];exact q2,by rw[lenOf_push o h1,lenOf_push o k1];exact q3⟩
 ·rw[fam_push H.wf o (H.dom _ _ hc)]at hr
  exact H.fam c m r hc hr
 ·have:=H.bsz;simp only[AHeap.size_push];omega
 ·rw[AHeap.get_push]at hb
  by_cases e:b=h.size
  ·rw[if_pos e,Option.some.injEq]at hb;have:=hself _ _ _ _ hb;omega
  ·rw[if_neg e]at hb;exact H.wf _ _ _ _ _ hb
 ·have:=H.dom c m hc
  rw[AHeap.get_push,if_neg (by omega)]at hg
  exact H.root c m cs thr hc hg
theorem HRel.track (H:HRel E base B μ h w) {b:Nat} {o:AObj} {o':Obj} {m:MT} (hb:b<h.size) (hg:h.get b=some o) (hn:μ b=none) (hbase:base≤b) (hB:B≤m.r) (hw:w.heap[m.r]? =some o')
 (hap:∀c mc,μ c=some mc→mc.r≠m.r) (hself:∀cs f tip thr,o= .cells cs f tip thr→f=b∧b≤tip) (hrt:∀cs thr,o= .cells cs b b thr→m.s=0) (ho:ORel (upd μ b m) h base b m o o'):HRel E base B (upd μ b m) h w:=by
 have hle:μ.le (upd μ b m):=upd_le hn
 have cas:∀{c:Nat} {mc:MT},upd μ b m c=some mc→(c=b∧mc=m)∨(c≠b∧μ c=some mc):=by
  intro c mc hc
  by_cases e:c=b
  ·subst e;rw[upd_self]at hc;cases hc;exact .inl ⟨rfl,rfl⟩
  ·rw[upd_ne _ _ e]at hc;exact .inr ⟨e,hc⟩
 refine⟨fun c mc hc=>?_,H.high,fun c mc hc=>?_,fun c mc hc hcb=>?_,fun b1 b2 m1 m2 hb1 hb2 hr hne hbb=>?_,fun c mc r hc hr=>?_,fun g hgl=>?_,H.low,H.bsz,H.wf,fun c mc cs thr hc hgc=>?_⟩
 ·rcases cas hc with⟨rfl,_⟩|⟨_,h2⟩
  ·exact hb
  ·exact H.dom _ _ h2
 ·rcases cas hc with⟨rfl,rfl⟩|⟨_,h2⟩
  ·exact⟨o,o',hg,hw,ho⟩
  ·obtain⟨p,p',k1,k2,k3⟩:=H.obj c mc h2
   exact⟨p,p',k1,k2,k3.mono hle id⟩
 ·rcases cas hc with⟨rfl,rfl⟩|⟨_,h2⟩
  ·exact hB
  ·exact H.own c mc h2 hcb
 ·rcases cas hb1 with⟨rfl,rfl⟩|⟨_,h2⟩<;>rcases cas hb2 with⟨rfl,rfl⟩|⟨_,k2⟩
  ·exact absurd rfl hne
  ·exact absurd hr.symm (hap _ _ k2)
  ·exact absurd hr (hap _ _ h2)
  ·exact H.alias b1 b2 m1 m2 h2 k2 hr hne hbb
 ·rcases cas hc with⟨rfl,rfl⟩|⟨_,h2⟩
  ·obtain⟨cs,t,th,h1⟩:=fam_cells hr
   obtain⟨c0,h2⟩:=fam_root hr
   rw[hg,Option.some.injEq]at h1
   obtain⟨e1,e2⟩:=hself _ _ _ _ h1
   rw[e1,hg,h1,Option.some.injEq,AObj.cells.injEq]at h2
   exact⟨by omega,by omega,mc,by rw[e1,upd_self]⟩
  ·obtain⟨q1,q2,m',q3⟩:=H.fam c mc r h2 hr
   exact⟨q1,q2,m',hle _ _ q3⟩
 ·obtain⟨mc,q1,q2⟩:=H.glob g hgl
  exact⟨mc,hle _ _ q1,q2⟩
 ·rcases cas hc with⟨rfl,rfl⟩|⟨_,h2⟩
  ·rw[hg,Option.some.injEq]at hgc;exact hrt cs thr hgc
  ·exact H.root c mc cs thr h2 hgc
theorem eqL1_eq {a b:Value} (h:eqL1 a b=true):a=b:=by
 unfold eqL1 at h
 split at h
 ·simpa using h
 ·simp only[Bool.and_eq_true,beq_iff_eq]at h;rw[h.1,h.2]
 ·simp only[beq_iff_eq]at h
  exact congrArg _ (ByteArray.ext (Array.ext' h))
 ·simp only[beq_iff_eq]at h;rw[h]
 ·simp only[Bool.and_eq_true,beq_iff_eq,beq_iff]at h;rw[h.1.1,h.1.2,h.2]
 ·simp only[beq_iff_eq]at h;rw[h]
 ·simp only[beq_iff_eq]at h;rw[h]
 ·rfl
 ·rfl
 ·simp only[Bool.and_eq_true,beq_iff_eq,beq_iff]at h;rw[h.1.1,h.1.2,h.2]
 ·simp only[Bool.and_eq_true,beq_iff]at h
  obtain⟨⟨⟨⟨h0,h1⟩,h2⟩,h3⟩,h4⟩:=h
  rw[h0,Array.eq_empty_of_size_eq_zero h1,Array.eq_empty_of_size_eq_zero h2,Array.eq_empty_of_size_eq_zero h3,Array.eq_empty_of_size_eq_zero h4]
 ·cases h
theorem eqLs_eq:∀{a b:List Value},eqLs a b=true→a=b
 |[],[],_=>rfl
 |x::a,y::b,h=>by
  simp only[eqLs,Bool.and_eq_true]at h
  rw[eqL1_eq h.1,eqLs_eq h.2]
 |[],_::_,h=>by simp[eqLs]at h
 |_::_,[],h=>by simp[eqLs]at h
theorem eqL_eq {a b:Value} (h:eqL a b=true):a=b:=by
 unfold eqL at h
 split at h
 ·rw[Array.ext' (eqLs_eq h)]
 ·exact eqL1_eq h
theorem eqEs_eq:∀{a b:List MapEntry},eqEs a b=true→a=b
 |[],[],_=>rfl
 |x::a,y::b,h=>by
  simp only[eqEs,Bool.and_eq_true,beq_iff]at h
  obtain⟨⟨⟨h1,h2⟩,h3⟩,h4⟩:=h
  rw[eqEs_eq h4]
  obtain⟨k,v,n⟩:=x
  obtain⟨k',v',n'⟩:=y
  simp only at h1 h2 h3
  rw[eqL_eq h1,eqL_eq h2,h3]
 |[],_::_,h=>by simp[eqEs]at h
 |_::_,[],h=>by simp[eqEs]at h
theorem sameRQ_run {h h':AHeap} {q:RQ} (hs:sameRQ h h' q=true) (hb:q.blk<h.size):q.run h'=q.run h:=by
 unfold sameRQ at hs
 rw[Bool.or_eq_true]at hs
 rcases hs with hs|hs
 rotate_left
 ·have:h=h':=of_decide_eq_true (inst:=Classical.propDecidable _) hs
  rw[this]
 unfold sameRQ0 at hs
 rw[blt_iff.2 hb]at hs
 cases q with
 |cells agg b o n=>
  simp only[cond_true]at hs
  simp only[RQ.run]
  split at hs
  ·rename_i l l' h1 h2
   rw[h1,h2,eqLs_eq hs]
  ·cases hs
 |look r kd k z ok=>
  simp only[cond_true]at hs
  simp only[RQ.run]
  split at hs
  ·rename_i l l' h1 h2
   rw[h1,h2]
   simp only[Option.bind_some]
   rw[eqEs_eq hs]
  ·cases hs
 |len r=>
  simp only[cond_true]at hs
  simp only[RQ.run]
  split at hs
  ·rename_i l l' h1 h2
   rw[h1,h2]
   simp only[Option.bind_some]
   rw[eqEs_eq hs]
  ·cases hs
theorem stay_run {h:AHeap} {q:RQ} {o:AObj} (hs:stayRQ h q=true) (hb:q.blk<h.size):q.run (h.push o)=q.run h:=by
 unfold stayRQ at hs
 rw[blt_iff.2 hb]at hs
 simp only[cond_true]at hs
 have hg:(h.push o).get q.blk=h.get q.blk:=by rw[AHeap.get_push,if_neg (by omega)]
 cases q with
 |cells agg b o' n=>
  simp only[RQ.blk]at hs hb hg
  have hf:(h.push o).fam b=h.fam b:=by
   unfold AHeap.fam
   rw[hg]
   split
   ·rename_i cs f tip thr he
    rw[he]at hs
    simp only[blt_iff]at hs
    rw[AHeap.get_push,if_neg (by omega)]
   ·rfl
  simp only[RQ.run,readCells,AHeap.rd,hf,AHeap.cellsOf,hg]
 |look r kd k z ok=>
  simp only[RQ.blk]at hg
  simp only[RQ.run,mapAt,hg]
 |len r=>
  simp only[RQ.blk]at hg
  simp only[RQ.run,mapAt,hg]
end
end Go.M
