/-
  Part 11 of the library that the proof leans on.
-/
import Derived.Test.YtmocpiopjkmnhaaGreatDoorL4
namespace Go.M
open Go
abbrev Out:=List Value
abbrev KV:=Value→AHeap→Option Out
abbrev CallK:=FuncId→List Value→AHeap→KV→Option Out
abbrev RoundK:=Nat→List Value→AHeap→KV→Option Out
abbrev KC:=Ex→AF→AHeap→Option Out
def meet:List (Option Out)→Option Out
 |[]=>none
 |x::xs=>x.bind fun o=>grd (xs.all fun y=>match y with|some o'=>eqLs o o'|none=>false) (some o)
def nextK (h:AHeap) (r base:Nat) (K:KV):Option Out:=
 grd (Nat.ble base r)<|
 match h.get r with
 |some (.miter none _ _ _)=>K (.tuple #[.bool false]) h
 |some (.miter (some m) since seen last)=>(match h.get m with
  |some (.map es clock)=>
   grd (!(!seen.isEmpty&& !es.isEmpty&&es.all (fun e=>Nat.ble last e.born)))<|
   (match es.filter (fun e=> !seen.contains e.born)with
   |[]=>K (.tuple #[.bool false]) h
   |e::l=>meet ((e::l).map fun e=>grd (Nat.blt e.born since) (K (.tuple #[.bool true,e.key,e.val]) (h.put r (.miter (some m) since (seen++[e.born]) clock)))))
  |_=>none)
 |_=>none
def opK (E:Env) (base:Nat) (cK:CallK) (rK:RoundK) (o:Oper) (f:AF) (h:AHeap) (K:KV):Option Out:=
 match o.op with
 | .next it false=>(match(ev E f it).bind asIter with
  |some r=>nextK h r base K
  |none=>none)
 |_=>
  match apure E f o with
  |some v=>K v h
  |none=>match aread E f o with
   |some q=>(match q.run h with|some v=>K v h|none=>none)
   |none=>match aalloc E f o with
    |some (m,hd)=>K (hd.val h.size) (h.push (m.obj h.size))
    |none=>match aeff E base f o h with
     |some (.val v,h')=>K v h'
     |some (.enter g args,h')=>cK g args h' K
     |some (.round l args,h')=>rK l args h' K
     |none=>none
def opsK (E:Env) (base:Nat) (cK:CallK) (rK:RoundK) (ops:List Oper):List Oper→AF→AHeap→(AF→AHeap→Option Out)→Option Out
 |[],f,h,K=>K f h
 |o::rest,f,h,K=>
  match wanted ops o f with
  |true=>opK E base cK rK o f h fun v h'=>opsK E base cK rK ops rest (f.put o.dst v) h' K
  |false=>opsK E base cK rK ops rest (f.put o.dst undef) h K
abbrev RunK:=Code→AF→AHeap→KC→Option Out
def callKB (E:Env) (base:Nat) (run:RunK):CallK:=fun g args h K=>
 match E.func g with
 |none=>none
 |some fn=>match E.orc base g args h with
  |some r=>K r.1 r.2
  |none=>match fn.body with
   |none=>none
   |some c=>grd (Nat.ble args.length fn.ntmps)<|run c (AF.enter args fn.ntmps) h fun ex f h'=>
    match ex with
    | .exit _=>none
    |_=>match aresults E h' f fn.results.toList with
     |some vs=>K (oneOrTuple vs) h'
     |none=>none
def roundKB (base:Nat) (run:RunK):RoundK:=fun l args h K=>
 grd (Nat.ble base l)<|
 match h.get l with
 |some (.loop .ready _ f ps asg body)=>grd (Nat.beq ps.length args.length&&noRange asg&&noRange body)<|
  run asg (AF.setAll (ps.zip args) f) h fun ex f1 h1=>
   (match ex with
   | .normal=>(match h1.get l with
    |some (.loop .ready p1 f0 ps1 asg1 body1)=>
     run body f1 (h1.put l (.loop .busy p1 f0 ps1 asg1 body1)) fun ex2 _ h2=>
      (match h2.get l with
      |some (.loop _ _ f0 ps1 asg1 body1)=>
       (match ex2 with
       | .normal=>K (.bool true) (h2.put l (.loop .ready none f0 ps1 asg1 body1))
       | .ret=>K (.bool false) (h2.put l (.loop .done (some .ret) f0 ps1 asg1 body1))
       | .exit id=>K (.bool false) (h2.put l (.loop .done (some (.exit id)) f0 ps1 asg1 body1)))
      |_=>none)
    |_=>none)
   |_=>none)
 |_=>none
noncomputable def evalK (E:Env) (base:Nat):Nat→RunK
 |0,_,_,_,_=>none
 |n+1,c,f,h,K=>
  match c with
  | .skip=>K .normal f h
  | .region _ ops draw=>(match draw with
   |false=>opsK E base (callKB E base (evalK E base n)) (roundKB base (evalK E base n)) ops.toList ops.toList f h fun f' h'=>K .normal f' h'
   |true=>(match aregion E base (aeval E base n) ops true f h with
    |some (ex,f',h')=>K ex f' h'
    |none=>none))
  | .seq a b=>evalK E base n a f h fun ex f' h'=>(match ex with
   | .normal=>evalK E base n b f' h' K
   |ex=>K ex f' h')
  | .cond c t e=>(match(ev E f c).bind asB with
   |some true=>evalK E base n t f h K
   |some false=>evalK E base n e f h K
   |none=>none)
  | .block id b=>evalK E base n b f h fun ex f' h'=>(match ex with
   | .exit id'=>bif Nat.beq id' id then K .normal f' h' else K (.exit id') f' h'
   |ex=>K ex f' h')
  | .loop b=>evalK E base n b f h fun ex f' h'=>(match ex with
   | .normal=>evalK E base n (.loop b) f' h' K
   |ex=>K ex f' h')
  | .exit id=>K (.exit id) f h
  | .ret=>K .ret f h
  | .rangeFunc g ps asg body=>(match ev E f g with
   |some (.func (.func g) first captured)=>grd (Nat.ble base h.size)<|
    callKB E base (evalK E base n) g (first.toList++[.func (.yield h.size) #[] #[]]++captured.toList) (h.push (.loop .ready none f ps.toList asg body)) fun _ h1=>
     (match h1.get h.size with
     |some (.loop st p f0 ps0 asg0 body0)=>grd (st != .busy) (match p with
      |none=>K .normal f (h1.put h.size (.loop .exhausted p f0 ps0 asg0 body0))
      |some c=>evalK E base n c f (h1.put h.size (.loop .exhausted p f0 ps0 asg0 body0)) K)
     |_=>none)
   |_=>none)
  |_=>none
noncomputable def callK (E:Env) (base n:Nat):CallK:=callKB E base (evalK E base n)
end Go.M
namespace Go.M
open Go
section
variable {P:Program} {E:Env} {μ:Emb} {f:AF} {a:Act} {base B:Nat} {h:AHeap} {w:World}
theorem ERels.get' {l l':List MapEntry} (hs:ERels μ l l'):∀(i:Nat) (e':MapEntry),l'[i]? =some e'→∃e,l[i]? =some e∧VRel μ e.key e'.key∧VRel μ e.val e'.val∧e.born=e'.born:=by
 induction hs with
 |nil=>intro i e' h;simp at h
 |cons q1 q2 q3 _ ih=>
  intro i e' h
  cases i with
  |zero=>simp at h;subst h;exact⟨_,rfl,q1,q2,q3⟩
  |succ i=>simpa using ih i e' (by simpa using h)
theorem run_choose_lt (n:Nat) (hn:0<n) (w:World):∃i d,i<n∧(choose (.mapNext n)).run P w= .ok i {w with drawn:=d}:=by
 rw[run_choose]
 by_cases hf:(Question.mapNext n).forced=true
 ·rw[if_pos hf];exact⟨0,w.drawn,hn,rfl⟩
 ·rw[if_neg hf]
  exact⟨_,w.drawn+1,Nat.mod_lt _ hn,rfl⟩
theorem meet_some {l:List (Option Out)} {o:Out} (h:meet l=some o):∀x∈l,x=some o:=by
 cases l with
 |nil=>intro x hx;simp at hx
 |cons y ys=>
  simp only[meet,Option.bind_eq_some_iff,grd_some,Option.some.injEq,List.all_eq_true]at h
  obtain⟨o',rfl,h2,rfl⟩:=h
  intro x hx
  rcases List.mem_cons.1 hx with rfl |hx
  ·rfl
  ·have:=h2 x hx
   cases x with
   |none=>simp at this
   |some o2=>simp only at this;rw[eqLs_eq this]
theorem nextK_sim (H:HRel E base B μ h w) {r:Nat} {m:MT} {K:KV} {out:Out} (ty:TypeId) (hk:nextK h r base K=some out) (hb:μ r=some m):
 ∃v h' v' w',K v h'=some out∧(Instr.next (.pointer (some ⟨m.r,0,none⟩)) false ty).run P w= .ok v' w'∧VRel μ v v'∧Step E base B μ h w μ h' w':=by
 unfold nextK at hk
 simp only[grd_some,ble_iff]at hk
 obtain⟨hbase,hk⟩:=hk
 obtain⟨o1,o2,k1,k2,k3⟩:=H.obj r m hb
 split at hk
 ·rename_i since seen last hg
  rw[hg]at k1;cases k1
  cases k3 with
  |miter0 hms=>
   have hgo:=run_getObj_map (P:=P) k2 (fun _ _ _=>by simp)
   refine⟨_,_,_,w,hk,?_,.tuple_of (by simpa using VRels.cons (.bool μ false) .nil),.refl H⟩
   unfold Instr.next
   simp only[Sem.run_bind,hgo,Result.andThen_ok]
   rfl
 ·rename_i mm since seen last hg
  rw[hg]at k1;cases k1
  cases k3 with
  |miter hkm hms=>
   rename_i mk
   have hgo:=run_getObj_map (P:=P) k2 (fun _ _ _=>by simp)
   split at hk
   ·rename_i es clock hgm
    obtain⟨p1,p2,j1,j2,j3⟩:=H.obj mm mk hkm
    rw[hgm]at j1;cases j1
    cases j3 with
    |map hs=>
     rename_i es'
     have hgom:=run_getObj_map (P:=P) j2 (fun _ _ _=>by simp)
     simp only[grd_some]at hk
     obtain⟨hc1,hk⟩:=hk
     have hlen:=hs.length
     have hemp:es'.isEmpty=es.isEmpty:=by
      cases es<;>cases h9:es'.toList<;>rw[h9]at hlen<;>simp at hlen
      ·have:es'= #[]:=by apply Array.ext';simp[h9]
       simp[this]
      ·have:es'.size≠0:=by have:=congrArg List.length h9;simp at this;omega
       simp[Array.isEmpty,this]
     have hall:(es'.all fun e=>decide (e.born≥last))=es.all (fun e=>Nat.ble last e.born):=by
      rw[←Array.all_toList,←hs.all_born (fun n=>decide (n≥last))]
      congr 1
      funext e
      rw[Bool.eq_iff_iff,ble_iff];simp
     have hcond:(!seen.toArray.isEmpty&& !es'.isEmpty&&es'.all fun e=>decide (e.born≥last))=false:=by
      rw[hemp,hall]
      have:seen.toArray.isEmpty=seen.isEmpty:=by cases seen<;>simp
      rw[this]
      simpa only[Bool.not_eq_true']using hc1
     have hfil:=hs.filter (fun n=> !seen.contains n)
     have hleft:(es'.filter fun e=> !seen.toArray.contains e.born).toList=es'.toList.filter (fun e=> !seen.contains e.born):=by
      simp
     generalize hL:(es'.filter fun e=> !seen.toArray.contains e.born)=left at hleft
     split at hk
     ·rename_i hf
      rw[hf]at hfil
      have hl0:left= #[]:=by
       apply Array.ext'
       rw[hleft]
       cases hfil':es'.toList.filter (fun e=> !seen.contains e.born)with
       |nil=>rfl
       |cons x y=>rw[hfil']at hfil;cases hfil
      refine⟨_,_,_,w,hk,?_,.tuple_of (by simpa using VRels.cons (.bool μ false) .nil),.refl H⟩
      unfold Instr.next
      simp only[Sem.run_bind,hgo,hgom,Result.andThen_ok,hcond,Bool.false_eq_true,if_false,hL,hl0]
      simp[Question.forced]
     ·rename_i e0 l0 hf
      rw[←hf]at hk
      rw[←hleft]at hfil
      have hk0:=meet_some hk
      have hk:∀e∈es.filter (fun e=> !seen.contains e.born),e.born<since∧K (.tuple #[.bool true,e.key,e.val]) (h.put r (.miter (some mm) since (seen++[e.born]) clock))=some out:=fun e he=>by
       have:=hk0 _ (List.mem_map_of_mem he)
       simp only[grd_some,blt_iff]at this
       exact this
      have hsz:0<left.size:=by
       have:=hfil.length
       rw[hf]at this
       simp at this;omega
      have hold:∀x∈left,x.born<since:=by
       intro x hx
       obtain⟨i,hi⟩:=List.mem_iff_getElem?.1 (by simpa using hx:x∈left.toList)
       obtain⟨e,h1,_,_,h4⟩:=hfil.get' i x hi
       rw[←h4]
       exact(hk e (List.mem_of_getElem? h1)).1
      have f1:(left.filter fun x=>decide (x.born<since))=left:=by
       apply Array.filter_eq_self.2
       intro x hx;simpa using hold x hx
      have f2:(left.filter fun x=>decide (x.born≥since))= #[]:=by
       apply Array.filter_eq_empty_iff.2
       intro x hx
       have:=hold x hx
       simp;omega
      have f3:left.isEmpty=false:=by
       cases hle:left.isEmpty with
       |false=>rfl
       |true=>
        have:left= #[]:=by simpa using hle
        rw[this]at hsz;simp at hsz
      obtain⟨i,d,hi,hch⟩:=run_choose_lt (P:=P) left.size hsz w
      have hgi:=Array.getElem?_eq_getElem hi
      obtain⟨e,h1,h2,h3,h4⟩:=hfil.get' i left[i] (by rw[Array.getElem?_toList];exact hgi)
      obtain⟨hbe,hKe⟩:=hk e (List.mem_of_getElem? h1)
      have Hd:=H.congr (w':={w with drawn:=d}) rfl
      have hso:=fun o=>run_setObj' (P:=P) (w:={w with drawn:=d}) (o:=o) k2 (fun _ _ _=>by simp)
      have st:=Step.put (o:=.miter (some mm) since (seen++[e.born]) clock) Hd hb hbase hg rfl rfl (Upd.set {w with drawn:=d} m.r (.mapIter (some mk.r) since (seen.toArray.push left[i].born) clock) (Hd.lt hb)) (by
       have:=ORel.miter (μ:=μ) (h:=h.put r (.miter (some mm) since (seen++[e.born]) clock)) (base:=base) (b:=r) (m:=m) (since:=since) (last:=clock) (seen:=seen++[e.born]) hkm hms
       rw[h4]at this ⊢
       simpa using this)
      refine⟨_,_,_,_,hKe,?_,.tuple_of (by simpa using VRels.cons (.bool μ true) (.cons h2 (.cons h3 .nil))),(Step.drawn H d).trans st⟩
      unfold Instr.next
      simp only[Sem.run_bind,hgo,hgom,Result.andThen_ok,hcond,Bool.false_eq_true,if_false,hL,f1,f2,f3]
      have f4:(#[]++(left++ #[]).map some:Array (Option MapEntry))=left.map some:=by simp
      rw[f4]
      simp only[Array.size_map,hch,Result.andThen_ok,Array.getElem?_map,hgi,Option.map_some,Sem.run_bind,hso,Sem.run_pure]
   ·cases hk
 ·cases hk
end
end Go.M
namespace Go.M
open Go
def RetK (E:Env) (base B:Nat) (μ:Emb) (h:AHeap) (w:World) (K:KV) (out:Out):Ending→World→Prop:=
 fun e w'=>∃v v' h' μ',K v h'=some out∧e= .returned v'∧VRel μ' v v'∧Step E base B μ h w μ' h' w'
def CallOkK (P:Program) (E:Env) (base B:Nat) (cK:CallK):Prop:=
 ∀(μ:Emb) (h:AHeap) (w:World) (g:FuncId) (args:List Value) (args':Array Value) (K:KV) (out:Out),cK g args h K=some out→VRels μ args args'.toList→HRel E base B μ h w→
  ∀(F:Fence) (n:Nat),Wide F→CallsIn F n P g args' w (RetK E base B μ h w K out)
def RoundOkK (P:Program) (E:Env) (base B:Nat) (rK:RoundK):Prop:=
 ∀(μ:Emb) (h:AHeap) (w:World) (l:Nat) (args:List Value) (K:KV) (out:Out) (m:MT) (f0:AF) (ps:List Tmp) (asg body:Code) (st:LoopState) (p:Option Code) (fn:FuncId) (tmps:Array Value),
  rK l args h K=some out→h.get l=some (.loop st p f0 ps asg body)→μ l=some m→HRel E base B μ h w→FRel μ (AF.setAll (ps.zip args) f0) tmps→
  ∀(F:Fence) (n:Nat),Wide F→RoundIn F n P m.r fn tmps asg body w (RetK E base B μ h w K out)
def CallFunK (E:Env) (cK:CallK):Prop:=∀g args h K out,cK g args h K=some out→(E.func g).isSome=true
def RoundFunK (rK:RoundK):Prop:=∀l args h K out,rK l args h K=some out→∃st p f0 ps asg body,h.get l=some (.loop st p f0 ps asg body)∧ps.length=args.length
section
variable {P:Program} {E:Env} {μ:Emb} {f:AF} {a:Act} {base B:Nat} {h:AHeap} {w:World} {cK:CallK} {rK:RoundK}
theorem noDeferK {o:Oper} {K:KV} {out:Out} {k:AHeap} (h:opK E base cK rK o f k K=some out):∀c,o.op≠ .defer c:=by
 intro c hc
 unfold opK at h
 simp only[apure,aread,aalloc,aeff,hc]at h
 cases h
theorem opK_sim (hE:EnvOk P E) (hcf:CallOkK P E base B cK) (hrf:RoundOkK P E base B rK) (hcF:CallFunK E cK) (hrF:RoundFunK rK) {F:Fence} (hF:Wide F) {n:Nat} (hf:FRel μ f a.tmps) (H:HRel E base B μ h w) {o:Oper} {K:KV} {out:Out} (hr:opK E base cK rK o f h K=some out)
 {next:Act→World→Prop} {Q:Exit→Act→World→Prop} (hn:∀μ' v v' h' w',K v h'=some out→VRel μ' v v'→Step E base B μ h w μ' h' w'→next (a.put o.dst v') w'):o.wpIn F n P a w next Q:=by
 have hg:GlobOk E μ:=H.glob
 refine⟨fun _ _=>hF.fn _,?_⟩
 rw[Oper.semAt_eq _ _ _ (noDeferK hr)]
 unfold opK at hr
 split at hr
 ·rename_i it hop
  split at hr
  ·rename_i r hit
   simp only[Option.bind_eq_some_iff]at hit
   obtain⟨v1,h1,h2⟩:=hit
   have e:=asIter_some h2;subst e
   obtain⟨m,hb,ex⟩:=(ev_rel hg hf h1).inv_ptr
   have hms:m.s=0:=by
    obtain⟨o1,o2,k1,k2,k3⟩:=H.obj r m hb
    unfold nextK at hr
    simp only[grd_some]at hr
    have hr2:=hr.2
    cases k3 with
    |siter hs=>exact hs
    |miter0 hs=>exact hs
    |miter _ hs=>exact hs
    |_=>rw[k1]at hr2;simp at hr2
   obtain⟨v,h',v',w',q0,q1,q2,q3⟩:=nextK_sim (P:=P) H o.type hr hb
   rw[hms]at ex
   have he:(execOp a.eval o).run P w= .ok (.value v') w':=by
    unfold execOp
    rw[hop]
    simp only[ex,Nat.add_zero,Sem.run_bind]
    rw[q1]
    simp
   rw[he]
   exact hn μ v v' h' w' q0 q2 q3
  ·cases hr
 ·split at hr
  ·rename_i v hp
   obtain⟨v',q1,q2⟩:=apure_sim hE hg hf hp
   rw[q2 w]
   exact hn μ _ v' _ w hr q1 (.refl H)
  ·split at hr
   ·rename_i q hq
    split at hr
    ·rename_i v hv
     obtain⟨v',q1,q2⟩:=aread_sim hE hf H hq hv
     rw[q2]
     exact hn μ _ v' _ w hr q1 (.refl H)
    ·cases hr
   ·split at hr
    ·rename_i md hd hal
     obtain⟨o',k,hv,S⟩:=aalloc_sim hE hg hf hal
     rw[S.run w]
     have st:=Step.alloc (o:=md.obj h.size) H (Alc.mk' w o') k (fun cs f tip thr hh=>by cases md<;>simp[Made.obj]at hh;exact⟨hh.2.1.symm,hh.2.2.1.symm⟩) (S.obj _ _ _ _ _ (upd_le H.fresh))
     exact hn _ _ _ _ _ hr (S.val _ _ _ (upd_self _ _ _)) st
    ·split at hr
     ·rename_i v h' he
      obtain⟨μ',nx,v',w',q1,q2,q3,q4⟩:=aeff_val hE hf H he
      rw[q1]
      rcases q2 with rfl |⟨rfl,rfl⟩
      ·exact hn μ' _ v' _ w' hr q3 q4
      ·exact hn μ' _ undef _ w' hr q3 q4
     ·rename_i g args h' he
      have hfun:=hcF _ _ _ _ _ hr
      obtain⟨args',e,q1,q2⟩:=aeff_enter hE hf H he hfun
      subst e
      rw[q2]
      refine⟨hF.ok n,(hcf μ h' w g args args' K out hr q1 H F (n - 1) hF).mono ?_⟩
      rintro e w' ⟨v,v',h2,μ',k0,rfl,k1,k2⟩
      exact hn μ' v v' h2 w' k0 k1 k2
     ·rename_i l args h' he
      obtain⟨st,p,f0,ps,asg,body,hl,hlen⟩:=hrF _ _ _ _ _ hr
      have hh:h'=h:=by
       obtain⟨dst,op,type,pos,after,guard⟩:=o
       cases op<;>simp only[aeff]at he<;>first|cases he|skip
       all_goals simp only[Option.bind_eq_some_iff,Option.some.injEq,Prod.mk.injEq,grd_some,reduceCtorEq,false_and,and_false,exists_false]at he
       ·obtain⟨_,_,_,_,he⟩:=he
        split at he
        ·split at he<;>simp at he
        ·cases he
       ·obtain⟨_,_,he⟩:=he
        split at he
        ·first|(simp at he;done)|(obtain⟨_,_,he⟩:=he;simp at he;done)|(simp only[Option.bind_eq_some_iff]at he;obtain⟨_,_,he⟩:=he;cases he)
        ·try simp only[Option.bind_eq_some_iff]at he
         obtain⟨_,_,he⟩:=he
         split at he
         ·simp at he
         ·simp only[Option.some.injEq,Prod.mk.injEq]at he;exact he.2.symm
         ·cases he
        ·cases he
      subst hh
      obtain⟨m,args',lo,_,hb,hw,q1,q2,q3⟩:=aeff_round (P:=P) hf H he hl hlen
      rw[q2]
      refine⟨hF.ok n,(hrf μ h' w l args K out m f0 ps asg body st p lo.fn _ hr hl hb H (setAll_rel q3 q1) F (n - 1) hF).mono ?_⟩
      rintro e w' ⟨v,v',h2,μ',k0,rfl,k1,k2⟩
      exact hn μ' v v' h2 w' k0 k1 k2
     ·cases hr
theorem opsK_sim (hE:EnvOk P E) (hcf:CallOkK P E base B cK) (hrf:RoundOkK P E base B rK) (hcF:CallFunK E cK) (hrF:RoundFunK rK) {F:Fence} (hF:Wide F) {n:Nat} {ops:Array Oper} {Q:Exit→Act→World→Prop} {K:AF→AHeap→Option Out} {out:Out}:∀(rest:List Oper) (k:Nat) (μ:Emb) (f:AF) (h:AHeap) (a:Act) (w:World),
 (∀j,rest[j]? =ops[k+j]?)→opsK E base cK rK ops.toList rest f h K=some out→FRel μ f a.tmps→HRel E base B μ h w→
 (∀f' h' μ' a' w',K f' h'=some out→FRel μ' f' a'.tmps→a'.defers=a.defers→Step E base B μ h w μ' h' w'→Q .normal a' w')→wpOpsIn F n P ops Q (List.range' k rest.length) a w
 |[],k,μ,f,h,a,w,_,ha,hf,H,hQ=>hQ _ _ μ a w ha hf rfl (.refl H)
 |o::rest,k,μ,f,h,a,w,hk,ha,hf,H,hQ=>by
  have h0:ops[k]? =some o:=by simpa using(hk 0).symm
  have hk':∀j,rest[j]? =ops[k+1+j]? :=fun j=>by have:=hk (j+1);simpa[Nat.add_assoc,Nat.add_comm 1 j]using this
  simp only[List.length_cons,List.range'_succ,wpOpsIn,h0,wanted_rel hf]
  simp only[opsK]at ha
  split at ha
  ·rename_i hw
   rw[if_pos hw]
   refine opK_sim hE hcf hrf hcF hrF hF hf H ha fun μ' v v' h' w' q0 q1 q2=>?_
   refine opsK_sim hE hcf hrf hcF hrF hF rest (k+1) μ' (f.put o.dst v) h' _ w' hk' q0 ((hf.mono q2.le).put q1 o.dst) q2.rel fun f2 h2 μ2 a2 w2 p0 p1 p2 p3=>?_
   exact hQ f2 h2 μ2 a2 w2 p0 p1 (by rw[p2];cases o.dst<;>rfl) (q2.trans p3)
  ·rename_i hw
   rw[if_neg (by rw[hw];simp)]
   refine⟨fun _ _=>hF.fn _,?_⟩
   refine opsK_sim hE hcf hrf hcF hrF hF rest (k+1) μ (f.put o.dst undef) h _ w hk' ha (hf.put (.undef μ) o.dst) H fun f2 h2 μ2 a2 w2 p0 p1 p2 p3=>?_
   exact hQ f2 h2 μ2 a2 w2 p0 p1 (by rw[p2];cases o.dst<;>rfl) p3
def CodeOkK (P:Program) (E:Env) (base B k:Nat):Prop:=
 ∀(c:Code) (f:AF) (h:AHeap) (K:KC) (out:Out),evalK E base k c f h K=some out→
  ∀(μ:Emb) (a:Act) (w:World) (W0:Nat) (rs:List Nat),FRel μ f a.tmps→HRel E base B μ h w→MarksOk W0 μ w a.defers rs→W0≤w.heap.size→
  ∀(F:Fence) (n:Nat) (Q:Exit→Act→World→Prop),Wide F→(F.round=none∨noRange c=true)→
  (∀ex f' h' μ' a' w' rs',K ex f' h'=some out→FRel μ' f' a'.tmps→MarksOk W0 μ' w' a'.defers rs'→Step E base B μ h w μ' h' w'→Q (toExit ex) a' w')→c.wpIn F n P Q a w
theorem callFunK (run:RunK):CallFunK E (callKB E base run):=by
 intro g args h K out hr
 unfold callKB at hr
 split at hr
 ·cases hr
 ·rename_i fn hfn;rw[hfn];rfl
theorem roundFunK (run:RunK):RoundFunK (roundKB base run):=by
 intro l args h K out hr
 unfold roundKB at hr
 simp only[grd_some]at hr
 obtain⟨_,hr⟩:=hr
 split at hr
 ·rename_i p f ps asg body hg
  simp only[grd_some,Bool.and_eq_true,beq_iff]at hr
  exact⟨_,_,_,_,_,_,hg,hr.1.1.1⟩
 ·cases hr
theorem callOkK (hE:EnvOk P E) (hO:OrcOk P E base B) {k:Nat} (hk:CodeOkK P E base B k):CallOkK P E base B (callKB E base (evalK E base k)):=by
 intro μ h w g args args' K out hc hr H F n hF
 unfold callKB at hc
 split at hc
 ·cases hc
 rename_i fn h1
 split at hc
 ·rename_i r ho
  refine(hO μ h w g args args' r.1 r.2 ho hr H F n hF).mono ?_
  rintro e w' ⟨v',μ',rfl,k1,k2⟩
  exact⟨_,v',_,μ',hc,rfl,k1,k2⟩
 ·split at hc
  ·cases hc
  rename_i c h2
  simp only[grd_some,ble_iff]at hc
  obtain⟨hn,hc⟩:=hc
  obtain⟨f1,f2,f3⟩:=hE.func _ _ h1
  have fin:CallsIn F.plain n P g args' w (RetK E base B μ h w K out):=by
   refine callsIn_of_wp_marks f1 h2 (hF.fn _) ?_ rfl
   refine hk c _ h _ out hc μ _ w w.heap.size [] (enter_rel hr hn) H .nil (Nat.le_refl _) F.plain n _ hF.plain (.inl rfl) ?_
   intro ex fe he μ' a' w' rs' q0 q1 q2 q3
   have lv:∀vs,aresults E he fe fn.results.toList=some vs→K (oneOrTuple vs) he=some out→LeavesInM F.plain n P fn a'.tmps (RetK E base B μ h w K out) a'.defers .returning w':=fun vs h3 h4=>
    leaves_marks a'.defers rs' w' q2 q3 fun w2 s2=>by
     obtain⟨v',p1,p2⟩:=results_sim (P:=P) hE q1 s2.rel h3
     exact⟨v',p1,_,v',_,μ',h4,rfl,p2,s2⟩
   cases ex with
   |exit id=>simp at q0
   |normal=>
    simp only at q0
    split at q0
    ·rename_i vs h3;exact lv vs h3 q0
    ·cases q0
   |ret=>
    simp only at q0
    split at q0
    ·rename_i vs h3;exact lv vs h3 q0
    ·cases q0
  exact fin
end
end Go.M
namespace Go.M
open Go
section
variable {P:Program} {E:Env} {base B:Nat}
theorem roundOkK {k:Nat} (hk:CodeOkK P E base B k):RoundOkK P E base B (roundKB base (evalK E base k)):=by
 intro μ h w l args K out m f0 ps asg body st p fn tmps hr hl hb H hf F n hF
 unfold roundKB at hr
 simp only[grd_some,ble_iff]at hr
 obtain⟨hbase,hr⟩:=hr
 rw[hl]at hr
 cases st with
 |ready=>
  simp only[grd_some,Bool.and_eq_true,beq_iff]at hr
  obtain⟨⟨⟨hlen,hna⟩,hnb⟩,hr⟩:=hr
  refine roundIn_of_wpIn (hF.fn _) ?_
  refine hk asg _ h _ out hr μ _ w w.heap.size [] hf H .nil (Nat.le_refl _) (F.inRound m.r) n _ (hF.inRound _) (.inr hna) ?_
  intro ex1 f1 h1 μ1 a1 w1 rs1 q0 q1 q2 s1
  cases ex1 with
  |exit id=>simp at q0
  |ret=>simp at q0
  |normal=>
   simp only at q0
   split at q0
   ·rename_i p1 f01 ps1 asg1 body1 hl1
    have hb1:=s1.le _ _ hb
    obtain⟨lo1,e1,e2,e3,s2⟩:=loop_put s1.rel hb1 hbase hl1 .busy p1
    have s2':Step E base B μ1 h1 w1 μ1 (h1.put l (.loop .busy p1 f01 ps1 asg1 body1)) {w1 with heap:=w1.heap.setIfInBounds m.r (.loop {lo1 with state:=.busy})}:=by
     rw[←e3]at s2 ⊢
     exact s2
    refine⟨{w1 with heap:=w1.heap.setIfInBounds m.r (.loop {lo1 with state:=.busy})},?_,?_⟩
    ·unfold Instr.beginRound
     simp only[Sem.run_bind,run_getLoop (P:=P) e1,Result.andThen_ok,run_setObj' (P:=P) e1 (fun _ _ _=>by simp),e2,Sem.run_pure]
    refine hk body f1 _ _ out q0 μ1 a1 _ w.heap.size rs1 q1 s2'.rel (q2.step s2') (by rw[Array.size_setIfInBounds];exact s1.grow.size) (F.inRound m.r) n _ (hF.inRound _) (.inr hnb) ?_
    intro ex f2 h2 μ3 a3 w3 rs3 q0 q3 q4 s3
    have sall:=(s1.trans s2')
    have hb3:=s3.le _ _ hb1
    split at q0
    ·rename_i st2 p2 f02 ps2 asg2 body2 hl2
     have key:∀(st':LoopState) (jump:Option Code),(jump.isNone=true→st'= .ready)→(jump.isNone=false→st'= .done)→∃w4,(Instr.endRound m.r jump).run P w3= .ok (.bool jump.isNone) w4∧Step E base B μ3 h2 w3 μ3 (h2.put l (.loop st' jump f02 ps2 asg2 body2)) w4:=by
      intro st' jump hj1 hj2
      obtain⟨lo3,d1,d2,d3,s4⟩:=loop_put s3.rel hb3 hbase hl2 st' jump
      refine⟨_,?_,s4⟩
      unfold Instr.endRound
      simp only[Sem.run_bind,run_getLoop (P:=P) d1,Result.andThen_ok,run_setObj' (P:=P) d1 (fun _ _ _=>by simp),Sem.run_pure]
      cases hj:jump.isNone with
      |true=>rw[hj1 hj];simp
      |false=>rw[hj2 hj];simp
     cases ex with
     |normal=>
      obtain⟨w4,k1,k2⟩:=key .ready none (fun _=>rfl) (fun h=>by simp at h)
      exact⟨_,w4,k1,_,_,_,μ3,q0,rfl,.bool _ _,(sall.trans s3).trans k2⟩
     |ret=>
      obtain⟨w4,k1,k2⟩:=key .done (some .ret) (fun h=>by simp at h) (fun _=>rfl)
      exact⟨_,w4,k1,_,_,_,μ3,q0,rfl,.bool _ _,(sall.trans s3).trans k2⟩
     |exit id=>
      obtain⟨w4,k1,k2⟩:=key .done (some (.exit id)) (fun h=>by simp at h) (fun _=>rfl)
      exact⟨_,w4,k1,_,_,_,μ3,q0,rfl,.bool _ _,(sall.trans s3).trans k2⟩
    ·cases q0
   ·cases q0
 |busy=>cases hr
 |done=>cases hr
 |exhausted=>cases hr
theorem codeOkK (hE:EnvOk P E) (hO:OrcOk P E base B) (hD:DrawSim P E base B):∀k,CodeOkK P E base B k∧
 (∀(b:Code) (f:AF) (h:AHeap) (K:KC) (out:Out),evalK E base k (.loop b) f h K=some out→
  ∀(μ:Emb) (a:Act) (w:World) (W0:Nat) (rs:List Nat),FRel μ f a.tmps→HRel E base B μ h w→MarksOk W0 μ w a.defers rs→W0≤w.heap.size→
  ∀(F:Fence) (n:Nat) (Q:Exit→Act→World→Prop),Wide F→(F.round=none∨noRange b=true)→
  (∀ex f' h' μ' a' w' rs',K ex f' h'=some out→FRel μ' f' a'.tmps→MarksOk W0 μ' w' a'.defers rs'→Step E base B μ h w μ' h' w'→Q (toExit ex) a' w')→Code.roundsIn F n P b Q k a w):=by
 intro k
 induction k with
 |zero=>exact⟨fun c f h K out hr=>by simp[evalK]at hr,fun b f h K out hr=>by simp[evalK]at hr⟩
 |succ k ih=>
  obtain⟨hk,hloop⟩:=ih
  have hcall:=callOkK hE hO hk
  have hround:=roundOkK hk
  have loopk:∀(b:Code) (f:AF) (h:AHeap) (K:KC) (out:Out),evalK E base (k+1) (.loop b) f h K=some out→
   ∀(μ:Emb) (a:Act) (w:World) (W0:Nat) (rs:List Nat),FRel μ f a.tmps→HRel E base B μ h w→MarksOk W0 μ w a.defers rs→W0≤w.heap.size→
   ∀(F:Fence) (n:Nat) (Q:Exit→Act→World→Prop),Wide F→(F.round=none∨noRange b=true)→
   (∀ex f' h' μ' a' w' rs',K ex f' h'=some out→FRel μ' f' a'.tmps→MarksOk W0 μ' w' a'.defers rs'→Step E base B μ h w μ' h' w'→Q (toExit ex) a' w')→Code.roundsIn F n P b Q (k+1) a w:=by
   intro b f h K out hr μ a w W0 rs hf H hm hW F n Q hF hrg hQ
   simp only[evalK]at hr
   rw[roundsIn_succ]
   refine hk b f h _ out hr μ a w W0 rs hf H hm hW F n _ hF hrg fun ex f1 h1 μ1 a1 w1 rs1 q0 q1 q2 s1=>?_
   cases ex with
   |normal=>exact hloop b f1 h1 K out q0 μ1 a1 w1 W0 rs1 q1 s1.rel q2 (Nat.le_trans hW s1.grow.size) F n Q hF hrg fun ex f2 h2 μ2 a2 w2 rs2 p0 p1 p2 s2=>hQ ex f2 h2 μ2 a2 w2 rs2 p0 p1 p2 (s1.trans s2)
   |exit id=>exact hQ _ f1 h1 μ1 a1 w1 rs1 q0 q1 q2 s1
   |ret=>exact hQ _ f1 h1 μ1 a1 w1 rs1 q0 q1 q2 s1
  refine⟨?_,loopk⟩
  intro c f h K out hr μ a w W0 rs hf H hm hW F n Q hF hrg hQ
  cases c with
  |skip=>exact wpIn_skip (hQ .normal f h μ a w rs (by simpa[evalK]using hr) hf hm (.refl H))
  |exit id=>exact wpIn_exit (hQ (.exit id) f h μ a w rs (by simpa[evalK]using hr) hf hm (.refl H))
  |ret=>exact wpIn_ret (hQ .ret f h μ a w rs (by simpa[evalK]using hr) hf hm (.refl H))
  |seq x y=>
   simp only[evalK]at hr
   have hx:F.round=none∨noRange x=true:=hrg.imp (fun h=>h) fun h=>by simp[noRange]at h;exact h.1
   have hy:F.round=none∨noRange y=true:=hrg.imp (fun h=>h) fun h=>by simp[noRange]at h;exact h.2
   refine wpIn_seq ?_
   refine hk x f h _ out hr μ a w W0 rs hf H hm hW F n _ hF hx fun ex f1 h1 μ1 a1 w1 rs1 q0 q1 q2 s1=>?_
   cases ex with
   |normal=>exact hk y f1 h1 K out q0 μ1 a1 w1 W0 rs1 q1 s1.rel q2 (Nat.le_trans hW s1.grow.size) F n Q hF hy fun ex f2 h2 μ2 a2 w2 rs2 p0 p1 p2 s2=>hQ ex f2 h2 μ2 a2 w2 rs2 p0 p1 p2 (s1.trans s2)
   |exit id=>exact hQ _ f1 h1 μ1 a1 w1 rs1 q0 q1 q2 s1
   |ret=>exact hQ _ f1 h1 μ1 a1 w1 rs1 q0 q1 q2 s1
  |cond cx x y=>
   simp only[evalK]at hr
   have hx:F.round=none∨noRange x=true:=hrg.imp (fun h=>h) fun h=>by simp[noRange]at h;exact h.1
   have hy:F.round=none∨noRange y=true:=hrg.imp (fun h=>h) fun h=>by simp[noRange]at h;exact h.2
   cases hb:(ev E f cx).bind asB with
   |none=>rw[hb]at hr;cases hr
   |some b=>
    simp only[Option.bind_eq_some_iff]at hb
    obtain⟨v,h1,h2⟩:=hb
    have hb:(ev E f cx).bind asB=some b:=by simp[h1,h2]
    rw[hb]at hr
    have e:=asB_some h2;subst e
    have hc:=(ev_rel H.glob hf h1).inv_scalar rfl
    cases b with
    |true=>exact wpIn_cond_true hc (hk x f h K out hr μ a w W0 rs hf H hm hW F n Q hF hx hQ)
    |false=>exact wpIn_cond_false hc (hk y f h K out hr μ a w W0 rs hf H hm hW F n Q hF hy hQ)
  |block id b=>
   simp only[evalK]at hr
   have hb':F.round=none∨noRange b=true:=hrg.imp (fun h=>h) fun h=>by simpa[noRange]using h
   refine wpIn_block ?_
   refine hk b f h _ out hr μ a w W0 rs hf H hm hW F n _ hF hb' fun ex f1 h1 μ1 a1 w1 rs1 q0 q1 q2 s1=>?_
   cases ex with
   |normal=>exact hQ _ f1 h1 μ1 a1 w1 rs1 q0 q1 q2 s1
   |ret=>exact hQ _ f1 h1 μ1 a1 w1 rs1 q0 q1 q2 s1
   |exit id'=>
    simp only[bif_eq]at q0
    show(if id'=id then Q .normal a1 w1 else Q (.exit id') a1 w1)
    by_cases e:id'=id
    ·rw[if_pos (beq_iff.2 e)]at q0
     rw[if_pos e];exact hQ _ f1 h1 μ1 a1 w1 rs1 q0 q1 q2 s1
    ·rw[if_neg (fun hh=>e (beq_iff.1 hh))]at q0
     rw[if_neg e];exact hQ _ f1 h1 μ1 a1 w1 rs1 q0 q1 q2 s1
  |loop b=>
   exact wpIn_loop_rounds (k+1) (loopk b f h K out hr μ a w W0 rs hf H hm hW F n Q hF (hrg.imp (fun h=>h) fun h=>by simpa[noRange]using h) hQ)
  |region id ops draw=>
   simp only[evalK]at hr
   cases draw with
   |false=>
    refine wpIn_region ?_
    have:=opsK_sim hE hcall hround (callFunK _) (roundFunK _) hF (n:=n) (ops:=ops) (Q:=Q) ops.toList 0 μ f h a w (fun j=>by simp) hr hf H fun f' h' μ1 a1 w1 q0 q1 q2 s1=>hQ _ f' h' μ1 a1 w1 rs q0 q1 (by rw[q2];exact hm.step s1) s1
    rw[List.range_eq_range',←Array.length_toList]
    exact this
   |true=>
    simp only at hr
    split at hr
    ·rename_i ex f' h' hreg
     have hreg2:aeval E base (k+1) (.region id ops true) f h=some (ex,f',h'):=by simpa only[aeval]using hreg
     exact(codeOk hE hO hD (k+1)).1 _ f h ex f' h' hreg2 μ a w W0 rs hf H hm hW F n Q hF hrg fun μ' a' w' rs' q1 q2 s1=>hQ ex f' h' μ' a' w' rs' hr q1 q2 s1
    ·cases hr
  |rangeFunc g ps asg body=>
   have hro:F.round=none:=hrg.resolve_right (by simp[noRange])
   simp only[evalK]at hr
   split at hr
   ·rename_i gid first captured h1
    simp only[grd_some,ble_iff]at hr
    obtain⟨hbase,hc⟩:=hr
    have hgr:=ev_rel H.glob hf h1
    generalize hq:a.eval g=q at hgr
    cases hgr with
    |lit hh=>simp[plain1]at hh
    |func t1 t2 t3 t4=>
     rename_i first' captured'
     refine wpIn_rangeFunc fun fn _=>?_
     let wA:World:={w with heap:=w.heap.push (.deferred (some []))}
     let lo:Loop:={state:=.ready,pending:=none,fn:=fn,tmps:=a.tmps,params:=ps,assign:=asg,body:=body,defers:=w.heap.size}
     let wB:World:={wA with heap:=wA.heap.push (.loop lo)}
     have sA:Step E base B μ h w μ h wA:=Step.alcW H (Alc.mk' w _)
     have hszA:wA.heap.size=w.heap.size+1:=by simp[wA]
     have sB:=Step.alloc (o:=.loop .ready none f ps.toList asg body) sA.rel (Alc.mk' wA (.loop lo)) 0 (fun _ _ _ _ hh=>by cases hh) (by
      have:=ORel.loop (μ:=upd μ h.size ⟨wA.heap.size,0,0⟩) (h:=h.push (.loop .ready none f ps.toList asg body)) (base:=base) (b:=h.size) (m:=⟨wA.heap.size,0,0⟩) (st:=.ready) (p:=none) (ps:=ps.toList) (asg:=asg) (body:=body) (fn:=fn) (d:=w.heap.size) (hf.mono (upd_le H.fresh))
      simpa using this)
     let mk:Deferred:={target:=.collected w.heap.size,args:= #[]}
     have hmk:MarkOk W0 μ wA mk w.heap.size:=⟨rfl,by simp[wA],fun b m hb he=>by have:=H.lt hb;omega,hW⟩
     have hnr:w.heap.size∉rs:=by
      have:∀{ds:List Deferred} {rs:List Nat},MarksOk W0 μ w ds rs→∀r∈rs,r<w.heap.size:=by
       intro ds rs k
       induction k with
       |nil=>intro r hr;simp at hr
       |cons h1 _ _ ih=>intro r hr;rcases List.mem_cons.1 hr with rfl |hr
                        ·exact(Array.getElem?_eq_some_iff.1 h1.obj).1
                        ·exact ih r hr
      intro hmem
      have:=this hm _ hmem
      omega
     have hmarks:MarksOk W0 μ wA (mk::a.defers) (w.heap.size::rs):=.cons hmk hnr (hm.step sA)
     let args':Array Value:=first'++ #[.func (.yield wA.heap.size) #[] #[]]++captured'
     have hfun:=callFunK (E:=E) _ _ _ _ _ _ hc
     obtain⟨fnr,hfnr⟩:=Option.isSome_iff_exists.1 hfun
     obtain⟨g1,g2,g3⟩:=hE.func _ _ hfnr
     have hbn:fnr.body.isNone=false:=by cases hx:fnr.body<;>simp_all
     have hargs:VRels (upd μ h.size ⟨wA.heap.size,0,0⟩) (first.toList++[.func (.yield h.size) #[] #[]]++captured.toList) args'.toList:=by
      have hle:μ.le (upd μ h.size ⟨wA.heap.size,0,0⟩):=upd_le H.fresh
      have v1:=(VRels.of_arr t1 t2).mono hle
      have v3:=(VRels.of_arr t3 t4).mono hle
      have v2:=VRels.cons (VRel.yield (upd_self μ h.size ⟨wA.heap.size,0,0⟩)) .nil
      simpa[args']using(v1.append v2).append v3
     refine⟨wA.heap.size,[mk],wB,{target:=.fn (.func gid) captured',args:=first'++ #[.func (.yield wA.heap.size) #[] #[]]},wB,gid,args',wB,?_,?_,fun _ _=>hF.fn _,?_,hF.ok n,?_⟩
     ·rw[hro]
      unfold Instr.enterLoop
      simp only[Sem.run_bind,run_newObj,Result.andThen_ok,Sem.run_pure]
      rfl
     ·have hcv:∀v:Value,a.eval (.const v)=v:=fun _=>rfl
      simp[resolve,hq,Deferred.ofValue,Sem.run_pure,hcv]
     ·simp only[invoke,callFunc,Sem.run_bind,run_program,Result.andThen_ok,g1,g3,hbn,Bool.false_eq_true,if_false,Sem.run_pure]
      rfl
     ·refine(hcall _ _ wB gid _ args' _ out hc hargs sB.rel F (n - 1) hF).mono ?_
      rintro e w3 ⟨rv,v',h2,μ3,q0,rfl,k1,s3⟩
      have hb3:μ3 h.size=some ⟨wA.heap.size,0,0⟩:=s3.le _ _ (upd_self _ _ _)
      simp only at q0
      split at q0
      ·rename_i st p f0 ps0 asg0 body0 hl
       simp only[grd_some]at q0
       obtain⟨hst,q0⟩:=q0
       obtain⟨lo3,d1,d2,d3,s4⟩:=loop_put s3.rel hb3 hbase hl .exhausted p
       have s4':Step E base B μ3 h2 w3 μ3 (h2.put h.size (.loop .exhausted p f0 ps0 asg0 body0)) {w3 with heap:=w3.heap.setIfInBounds wA.heap.size (.loop {lo3 with state:=.exhausted})}:=by
        rw[←d3]at s4 ⊢
        exact s4
       have sall:=((sA.trans sB).trans s3).trans s4'
       have hm4:MarksOk W0 μ3 {w3 with heap:=w3.heap.setIfInBounds wA.heap.size (.loop {lo3 with state:=.exhausted})} (mk::a.defers) (w.heap.size::rs):=((hmarks.step sB).step s3).step s4'
       refine⟨p,{w3 with heap:=w3.heap.setIfInBounds wA.heap.size (.loop {lo3 with state:=.exhausted})},?_,?_⟩
       ·unfold Instr.endLoop
        simp only[Sem.run_bind,run_getLoop (P:=P) d1,Result.andThen_ok]
        rw[if_neg (by rw[d2];intro hh;rw[bne_iff_ne]at hst;exact hst (eq_of_beq hh))]
        simp only[Sem.run_bind,run_setObj' (P:=P) d1 (fun _ _ _=>by simp),Result.andThen_ok,Sem.run_pure,d3]
       ·cases p with
        |none=>exact hQ _ f _ μ3 _ _ _ q0 (hf.mono sall.le) hm4 sall
        |some cj=>
         exact hk cj f _ K out q0 μ3 {a with defers:=mk::a.defers} _ W0 _ (hf.mono sall.le) s4'.rel hm4 (Nat.le_trans hW sall.grow.size) F n Q hF (.inl hro) fun ex f5 h5 μ5 a5 w5 rs5 p0 p1 p2 s5=>hQ ex f5 h5 μ5 a5 w5 rs5 p0 p1 p2 (sall.trans s5)
      ·cases q0
   ·cases hr
  |scope b=>simp only[evalK]at hr;cases hr
  |label l=>simp only[evalK]at hr;cases hr
  |goto l=>simp only[evalK]at hr;cases hr
  |refuse s=>simp only[evalK]at hr;cases hr
theorem callK_ok (hE:EnvOk P E) (hO:OrcOk P E base B) (hm:P.follows .mixedOrders=true) (n:Nat):CallOkK P E base B (callK E base n):=
 callOkK hE hO (codeOkK hE hO (drawSim hE hm) n).1
end
end Go.M
namespace Go.M
open Go
def outK (base:Nat):KV:=fun v h'=>match v with
 | .slice (some ⟨b,o,some z⟩) len _=>(readCells h' b o (len*z)).bind fun cs=>grd (Nat.ble base b&&Nat.blt 0 len&&cs.all scalar) (some (.bool false::goInt len::goInt z::cs))
 |v=>grd (plain1 v) (some [.bool true,v])
def ansOf (h:AHeap):Out→Option (Value×AHeap)
 |[.bool true,v]=>grd (plain1 v) (some (v,h))
 | .bool false:: .int _ (.ofNat len):: .int _ (.ofNat z)::cs=>some (.slice (some ⟨h.size,0,some z⟩) len (len+1),h.push (.cells cs h.size (h.size+1) 0))
 |_=>none
noncomputable def confl (E:Env) (n:Nat):CallF:=fun g args h=>(callK E h.size n g args h (outK h.size)).bind (ansOf h)
theorem HRel.ext {E:Env} {base B:Nat} {μ:Emb} {h:AHeap} {w w':World} (H:HRel E base B μ h w) (hs:w.heap.size≤w'.heap.size) (hk:∀r,r<w.heap.size→w'.heap[r]? =w.heap[r]?):HRel E base B μ h w':=
 ⟨H.dom,H.high,fun b m hb=>by
  obtain⟨p,p',k1,k2,k3⟩:=H.obj b m hb
  exact⟨p,p',k1,by rw[hk _ (H.lt hb)];exact k2,k3⟩,H.own,H.alias,H.fam,H.glob,Nat.le_trans H.low hs,H.bsz,H.wf,H.root⟩
theorem HRel.rebase {E E0:Env} {base B:Nat} {μ:Emb} {h:AHeap} {w:World} (H:HRel E base B μ h w) (hg:∀g,E0.glob g=true→E.glob g=true):HRel E0 h.size w.heap.size μ h w:=
 ⟨H.dom,H.high,fun b m hb=>by
  obtain⟨p,p',k1,k2,k3⟩:=H.obj b m hb
  have hd:=H.dom b m hb
  refine⟨p,p',k1,k2,?_⟩
  cases k3 with
  |cells hn hl hf hc=>exact .cells hn hl (fun h=>by omega) hc
  |map hs=>exact .map hs
  |siter hs=>exact .siter hs
  |miter0 hs=>exact .miter0 hs
  |miter hk hs=>exact .miter hk hs
  |loop hf=>exact .loop hf
  |bag hp hs hc hn=>exact .bag hp hs hc hn,fun b m hb hbb=>by have:=H.dom b m hb;omega,fun b1 b2 m1 m2 h1 h2 _ _ hbb=>by have:=H.dom b1 m1 h1;have:=H.dom b2 m2 h2;omega,H.fam,fun g hgl=>H.glob g (hg g hgl),Nat.le_refl _,Nat.le_refl _,H.wf,H.root⟩
section
variable {P:Program} {E E0:Env} {base B:Nat}
theorem confl_post {μ:Emb} {h hX:AHeap} {w:World} (H:HRel E base B μ h w) (_:hX.size=h.size) {out:Out} {v:Value} {h':AHeap} (hans:ansOf h out=some (v,h')) {u u':Value} {h1:AHeap} {μ1:Emb} {w':World}
 (hK:outK h.size u h1=some out) (hv:VRel μ1 u u') (S:Step E0 h.size w.heap.size μ hX w μ1 h1 w'):RetPost E base B μ h w v h' (.returned u') w':=by
 have hold:∀r,r<w.heap.size→w'.heap[r]? =w.heap[r]? :=fun r hr'=>S.grow.keep r hr' fun b m hb _=>H.dom b m hb
 have Hx:=H.ext S.grow.size hold
 have gr:Grow base μ w w':=⟨S.grow.tape,S.grow.os,S.grow.output,S.grow.size,fun r hr' _=>hold r hr'⟩
 have plain:∀v:Value,plain1 v=true→ansOf h [.bool true,v]=some (v,h):=fun v hp=>by simp[ansOf,grd,hp]
 unfold outK at hK
 split at hK
 ·rename_i b o z len cap
  simp only[Option.bind_eq_some_iff,grd_some,Bool.and_eq_true,ble_iff,blt_iff,Option.some.injEq]at hK
  obtain⟨cs,hrd,⟨⟨hbb,hlen⟩,hsc⟩,rfl⟩:=hK
  simp only[ansOf,goInt,Option.some.injEq,Prod.mk.injEq]at hans
  obtain⟨rfl,rfl⟩:=hans
  cases hv with
  |lit hh=>simp[plain1]at hh
  |slice0 hb=>omega
  |slice hb q1 q2 q3 q4=>
   rename_i cap' m
   obtain⟨o1,o2,k1,k2,k3⟩:=S.rel.obj b m hb
   obtain⟨rc1,rc2⟩:=S.rel.readCells hb hrd
   have hfresh:w.heap.size≤m.r:=by
    have hn:μ b=none:=by
     cases hx:μ b with
     |none=>rfl
     |some mx=>have:=H.dom b mx hx;omega
    rcases(S.new b m hn hb).2.2 with h5|⟨b0,m0,r1,r2,_⟩
    ·exact h5
    ·have:=H.dom b0 m0 r2;omega
   let m2:MT:=⟨m.r,m.s+o,m.n⟩
   have Hp:=Hx.pushA (o:=.cells cs h.size (h.size+1) 0) (fun _ _ _ _ hh=>by cases hh;rfl)
   have hget:(h.push (.cells cs h.size (h.size+1) 0)).get h.size=some (.cells cs h.size (h.size+1) 0):=by rw[AHeap.get_push,if_pos rfl]
   obtain⟨c0,e0,fr0,hobj,hcn,hcf,hcr⟩:∃c e fr,w'.heap[m.r]? =some (.cells c e fr)∧c.size=m.n∧NoFr fr m.n∧(∀(i:Nat) v,cs[i]? =some v→∃v',c[m.s+o+i]? =some v'∧VRel μ1 v v'):=by
    have hrd2:=hrd
    unfold M.readCells at hrd2
    simp only[Option.bind_eq_some_iff]at hrd2
    obtain⟨cs0,hr0,_⟩:=hrd2
    obtain⟨c,e,fr,t1,t2,t3,t4,t5⟩:=S.rel.read hb hr0
    refine⟨c,e,fr,t1,t2,t4 hbb,fun i v hv=>?_⟩
    obtain⟨v',s1,s2⟩:=rc2 i v hv
    refine⟨v',?_,s2⟩
    simpa[World.cell?,t1]using s1
   have hle:m.s+o+cs.length≤m.n:=by
    rw[rc1]
    have:len*z≤cap'*z:=Nat.mul_le_mul_right z q2
    omega
   have hscal:∀(i:Nat) v,cs[i]? =some v→scalar v=true:=fun i v hv=>List.all_eq_true.1 hsc v (List.mem_of_getElem? hv)
   have ho:ORel (upd μ h.size m2) (h.push (.cells cs h.size (h.size+1) 0)) base h.size m2 (.cells cs h.size (h.size+1) 0) (.cells c0 e0 fr0):=by
    refine .cells hcn hle (fun _=>hcf) fun _ i v hv=>?_
    obtain⟨v',s1,s2⟩:=hcr i v hv
    have:=s2.inv_scalar (hscal i v hv)
    subst this
    exact⟨v',s1,.of_scalar _ (hscal i v' hv)⟩
   have Ht:=Hp.track (b:=h.size) (m:=m2) (by simp[AHeap.size_push]) hget H.fresh H.bsz (by have:=H.low;show B≤m.r;omega) hobj
    (fun d md hd he=>by have:=H.lt hd;simp only[m2]at he;omega) (fun _ _ _ _ hh=>by cases hh;exact⟨rfl,by omega⟩) (fun _ _ hh=>by simp at hh) ho
   refine⟨_,upd μ h.size m2,rfl,?_,Ht,gr,upd_le H.fresh,fun d md h0 hd=>?_,fun d hd _=>by rw[AHeap.get_push,if_neg (by omega)],by simp[AHeap.size_push]⟩
   ·have:=VRel.slice (μ:=upd μ h.size m2) (b:=h.size) (o:=0) (z:=z) (len:=len) (cap:=len+1) (cap':=cap') (m:=m2) (upd_self _ _ _) (by omega) q2 (fun h=>by omega) (by simpa[m2]using q4)
    simpa[m2]using this
   ·by_cases ed:d=h.size
    ·subst ed
     rw[upd_self]at hd;cases hd
     exact⟨Nat.le_refl _,H.bsz,.inl hfresh⟩
    ·rw[upd_ne _ _ ed,h0]at hd;cases hd
 ·simp only[grd_some,Option.some.injEq]at hK
  obtain⟨hp,rfl⟩:=hK
  rw[plain _ hp]at hans
  simp only[Option.some.injEq,Prod.mk.injEq]at hans
  obtain⟨rfl,rfl⟩:=hans
  have:u'=u:=by cases u<;>simp[plain1]at hp<;>cases hv<;>first|rfl |simp_all
  subst this
  exact⟨u',μ,rfl,.lit hp,Hx,gr,μ.le_refl,fun b m h0 h1=>(by rw[h0]at h1;cases h1),fun _ _ _=>rfl,Nat.le_refl _⟩
theorem confl_ok (hE0:EnvOk P E0) (hO:∀base B,OrcOk P E0 base B) (hm:P.follows .mixedOrders=true) (hg:∀g,E0.glob g=true→E.glob g=true) (k:Nat):CallOk P E base B (confl E0 k):=by
 intro μ h w g args args' v h' hc hr H F n hF
 unfold confl at hc
 simp only[Option.bind_eq_some_iff]at hc
 obtain⟨out,hrun,hans⟩:=hc
 have H2:=H.rebase hg
 refine(callK_ok hE0 (hO _ _) hm k μ h w g args args' _ out hrun hr H2 F n hF).mono ?_
 rintro e w' ⟨u,u',h1,μ1,hK,rfl,hv,S⟩
 exact confl_post H rfl hans hK hv S
end
end Go.M
namespace Go.M
open Go
noncomputable def orcOf (P:Program) (fs:List Nat) (n:Nat):FuncId→List Value→AHeap→Option (Value×AHeap):=fun g args h=>
 match fs.contains g with
 |true=>confl (envOf P noOrc) n g args h
 |false=>none
end Go.M
namespace Go.M
open Go
def insI (x:Int):List Int→List Int
 |[]=>[x]
 |y::l=>bif Int.blt' x y then x::y::l else y::insI x l
where Int.blt' (x y:Int):Bool:=decide (x<y)
def sortI:List Int→List Int
 |[]=>[]
 |x::l=>insI x (sortI l)
theorem insI_perm (x:Int):∀l,(insI x l).Perm (x::l)
 |[]=>.refl _
 |y::l=>by
  unfold insI
  rw[bif_eq]
  split
  ·exact .refl _
  ·exact((insI_perm x l).cons y).trans (.swap x y l)
theorem sortI_perm:∀l,(sortI l).Perm l
 |[]=>.refl _
 |x::l=>(insI_perm x _).trans ((sortI_perm l).cons x)
def intsV:List Value→Option (List Int)
 |[]=>some []
 | .int .i64 x::l=>(intsV l).bind fun r=>some (x::r)
 |_=>none
theorem intsV_some:∀{l:List Value} {r:List Int},intsV l=some r→l=r.map (.int .i64)
 |[],r,h=>by simp[intsV]at h;subst h;rfl
 | .int .i64 x::l,r,h=>by
  simp only[intsV,Option.bind_eq_some_iff,Option.some.injEq]at h
  obtain⟨r',h1,rfl⟩:=h
  rw[intsV_some h1];rfl
def outB (base:Nat):KV:=fun v h'=>match v with
 | .slice (some ⟨b,o,some 1⟩) len _=>(readCells h' b o len).bind fun cs=>(intsV cs).bind fun xs=>grd (Nat.ble base b&&Nat.blt 0 len) (some (.bool false::goInt len::(sortI xs).map (.int .i64)))
 |v=>grd (plain1 v) (some [.bool true,v])
def ansB (h:AHeap):Out→Option (Value×AHeap)
 |[.bool true,v]=>grd (plain1 v) (some (v,h))
 | .bool false:: .int _ (.ofNat len)::cs=>(intsV cs).bind fun xs=>some (.slice (some ⟨h.size,0,some 1⟩) len (len+1),h.push (.bag xs))
 |_=>none
noncomputable def conflB (E:Env) (n:Nat):CallF:=fun g args h=>(callK E h.size n g args h (outB h.size)).bind (ansB h)
theorem intsV_map:∀l:List Int,intsV (l.map (.int .i64))=some l
 |[]=>rfl
 |x::l=>by simp[intsV,intsV_map l]
section
variable {P:Program} {E E0:Env} {base B:Nat}
theorem conflB_ok (hE0:EnvOk P E0) (hO:∀base B,OrcOk P E0 base B) (hm:P.follows .mixedOrders=true) (hg:∀g,E0.glob g=true→E.glob g=true) (k:Nat):CallOk P E base B (conflB E0 k):=by
 intro μ h w g args args' v h' hc hr H F n hF
 unfold conflB at hc
 simp only[Option.bind_eq_some_iff]at hc
 obtain⟨out,hrun,hans⟩:=hc
 have H2:=H.rebase hg
 refine(callK_ok hE0 (hO _ _) hm k μ h w g args args' _ out hrun hr H2 F n hF).mono ?_
 rintro e w' ⟨u,u',h1,μ1,hK,rfl,hv,S⟩
 have hold:∀r,r<w.heap.size→w'.heap[r]? =w.heap[r]? :=fun r hr'=>S.grow.keep r hr' fun b m hb _=>H.dom b m hb
 have Hx:=H.ext S.grow.size hold
 have gr:Grow base μ w w':=⟨S.grow.tape,S.grow.os,S.grow.output,S.grow.size,fun r hr' _=>hold r hr'⟩
 have plain:∀v:Value,plain1 v=true→ansB h [.bool true,v]=some (v,h):=fun v hp=>by simp[ansB,grd,hp]
 unfold outB at hK
 split at hK
 ·rename_i b o len cap
  simp only[Option.bind_eq_some_iff,grd_some,Bool.and_eq_true,ble_iff,blt_iff,Option.some.injEq]at hK
  obtain⟨cs,hrd,xs,hxs,⟨hbb,hlen⟩,rfl⟩:=hK
  have hcs:=intsV_some hxs
  simp only[ansB,goInt,intsV_map,Option.bind_some,Option.some.injEq,Prod.mk.injEq]at hans
  obtain⟨rfl,rfl⟩:=hans
  cases hv with
  |lit hh=>simp[plain1]at hh
  |slice0 hb=>omega
  |slice hb q1 q2 q3 q4=>
   rename_i cap' m
   obtain⟨rc1,rc2⟩:=S.rel.readCells hb hrd
   have hfresh:w.heap.size≤m.r:=by
    have hn:μ b=none:=by
     cases hx:μ b with
     |none=>rfl
     |some mx=>have:=H.dom b mx hx;omega
    rcases(S.new b m hn hb).2.2 with h5|⟨b0,m0,r1,r2,_⟩
    ·exact h5
    ·have:=H.dom b0 m0 r2;omega
   let m2:MT:=⟨m.r,m.s+o,m.n⟩
   have Hp:=Hx.pushA (o:=.bag (sortI xs)) (fun _ _ _ _ hh=>by cases hh)
   have hget:(h.push (.bag (sortI xs))).get h.size=some (.bag (sortI xs)):=by rw[AHeap.get_push,if_pos rfl]
   obtain⟨c0,e0,fr0,hobj,hcn,hcr⟩:∃c e fr,w'.heap[m.r]? =some (.cells c e fr)∧c.size=m.n∧(∀(i:Nat) v,cs[i]? =some v→∃v',c[m.s+o+i]? =some v'∧VRel μ1 v v'):=by
    have hrd2:=hrd
    unfold M.readCells at hrd2
    simp only[Option.bind_eq_some_iff]at hrd2
    obtain⟨cs0,hr0,_⟩:=hrd2
    obtain⟨c,e,fr,t1,t2,t3,t4,t5⟩:=S.rel.read hb hr0
    refine⟨c,e,fr,t1,t2,fun i v hv=>?_⟩
    obtain⟨v',s1,s2⟩:=rc2 i v hv
    refine⟨v',?_,s2⟩
    simpa[World.cell?,t1]using s1
   have hxl:xs.length=len:=by rw[←rc1,hcs];simp
   have ho:ORel (upd μ h.size m2) (h.push (.bag (sortI xs))) base h.size m2 (.bag (sortI xs)) (.cells c0 e0 fr0):=by
    refine .bag (l:=xs) (sortI_perm xs).symm (by show m.s+o+xs.length≤m.n;omega) (fun i x hx=>?_) hcn
    obtain⟨v',s1,s2⟩:=hcr i (.int .i64 x) (by rw[hcs];simp[hx])
    have:=s2.inv_scalar rfl
    subst this
    exact s1
   have Ht:=Hp.track (b:=h.size) (m:=m2) (by simp[AHeap.size_push]) hget H.fresh H.bsz (by have:=H.low;show B≤m.r;omega) hobj
    (fun d md hd he=>by have:=H.lt hd;simp only[m2]at he;omega) (fun _ _ _ _ hh=>by cases hh) (fun _ _ hh=>by cases hh) ho
   refine⟨_,upd μ h.size m2,rfl,?_,Ht,gr,upd_le H.fresh,fun d md h0 hd=>?_,fun d hd _=>by rw[AHeap.get_push,if_neg (by omega)],by simp[AHeap.size_push]⟩
   ·have:=VRel.slice (μ:=upd μ h.size m2) (b:=h.size) (o:=0) (z:=1) (len:=len) (cap:=len+1) (cap':=cap') (m:=m2) (upd_self _ _ _) (by omega) q2 (fun h=>by omega) (by simpa[m2]using q4)
    simpa[m2]using this
   ·by_cases ed:d=h.size
    ·subst ed
     rw[upd_self]at hd;cases hd
     exact⟨Nat.le_refl _,H.bsz,.inl hfresh⟩
    ·rw[upd_ne _ _ ed,h0]at hd;cases hd
 ·simp only[grd_some,Option.some.injEq]at hK
  obtain⟨hp,rfl⟩:=hK
  rw[plain _ hp]at hans
  simp only[Option.some.injEq,Prod.mk.injEq]at hans
  obtain⟨rfl,rfl⟩:=hans
  have:u'=u:=by cases u<;>simp[plain1]at hp<;>cases hv<;>first|rfl |simp_all
  subst this
  exact⟨u',μ,rfl,.lit hp,Hx,gr,μ.le_refl,fun b m h0 h1=>(by rw[h0]at h1;cases h1),fun _ _ _=>rfl,Nat.le_refl _⟩
end
end Go.M
namespace Go.M
open Go
def insAll (x:Int):List Int→List (List Int)
 |[]=>[[x]]
 |y::l=>(x::y::l)::(insAll x l).map (y::·)
def perms:List Int→List (List Int)
 |[]=>[[]]
 |x::l=>(perms l).flatMap (insAll x)
theorem mem_insAll (x:Int):∀a b:List Int,a++x::b∈insAll x (a++b)
 |[],[]=>by simp[insAll]
 |[],y::b=>by simp[insAll]
 |y::a,b=>by
  simp only[List.cons_append,insAll,List.mem_cons,List.mem_map]
  exact .inr ⟨_,mem_insAll x a b,rfl⟩
theorem mem_perms:∀{cs l:List Int},l.Perm cs→l∈perms cs
 |[],l,h=>by simp[perms,h.eq_nil]
 |x::cs,l,h=>by
  have hx:x∈l:=h.mem_iff.2 List.mem_cons_self
  obtain⟨a,b,rfl⟩:=List.append_of_mem hx
  have hp:(a++b).Perm cs:=(List.perm_middle.symm.trans h).cons_inv
  simp only[perms,List.mem_flatMap]
  exact⟨a++b,mem_perms hp,mem_insAll x a b⟩
def bagOf (h:AHeap):List Value→Option (Nat×List Int)
 |[]=>none
 | .slice (some ⟨b,_,some _⟩) _ cap::l=>(match Nat.beq cap 0,h.get b with
  |false,some (.bag cs)=>some (b,cs)
  |_,_=>bagOf h l)
 |_::l=>bagOf h l
def noRoot (h:AHeap) (b:Nat):Bool:=(List.range h.size).all fun c=>match h.get c with
 |some (.cells _ f _ _)=> !Nat.beq f b
 |_=>true
noncomputable def conflP (E:Env) (n:Nat):CallF:=fun g args h=>(bagOf h args).bind fun r=>grd (Nat.blt r.1 h.size&&noRoot h r.1)<|
 (meet ((perms r.2).map fun l=>callK E h.size n g args (h.put r.1 (.cells (l.map (.int .i64)) r.1 h.size 0)) (outK h.size))).bind (ansOf h)
theorem bagOf_get {h:AHeap} {args:List Value} {r:Nat×List Int} (hr:bagOf h args=some r):h.get r.1=some (.bag r.2):=by
 induction args with
 |nil=>simp[bagOf]at hr
 |cons v l ih=>
  unfold bagOf at hr
  split at hr
  ·cases hr
  ·rename_i b o z len cap l' heq
   simp only[List.cons.injEq]at heq
   obtain⟨_,rfl⟩:=heq
   split at hr
   ·rename_i cs hg;simp only[Option.some.injEq]at hr;subst hr;exact hg
   ·exact ih hr
  ·rename_i v' l' _ heq
   simp only[List.cons.injEq]at heq
   obtain⟨_,rfl⟩:=heq
   exact ih hr
section
variable {P:Program} {E E0:Env} {base B:Nat}
theorem HRel.unbag {μ:Emb} {h:AHeap} {w:World} (H:HRel E base B μ h w) (hlow:∀b,b<h.size→b<base) {b:Nat} {m:MT} (hb:μ b=some m) {cs:List Int} (hg:h.get b=some (.bag cs)) (hn:noRoot h b=true):
 ∃l:List Int,l.Perm cs∧HRel E base B μ (h.put b (.cells (l.map (.int .i64)) b h.size 0)) w:=by
 obtain⟨p,p',k1,k2,k3⟩:=H.obj b m hb
 rw[hg]at k1;cases k1
 have hbs:=H.dom b m hb
 cases k3 with
 |bag hp hl hc hcn=>
  rename_i c e fr l
  refine⟨l,hp,?_⟩
  have hroot:∀c cs' f t th,h.get c=some (.cells cs' f t th)→f≠b:=by
   intro c cs' f t th hgc hfb
   have hcs:c<h.size:=by
    rcases Nat.lt_or_ge c h.size with h1|h1
    ·exact h1
    ·rw[H.high c h1]at hgc;cases hgc
   unfold noRoot at hn
   have:=List.all_eq_true.1 hn c (List.mem_range.2 hcs)
   rw[hgc]at this
   simp[hfb]at this
  have hgne:∀c,c≠b→(h.put b (.cells (l.map (.int .i64)) b h.size 0)).get c=h.get c:=fun c hc=>by rw[AHeap.get_put,if_neg hc]
  have hgb:(h.put b (.cells (l.map (.int .i64)) b h.size 0)).get b=some (.cells (l.map (.int .i64)) b h.size 0):=by rw[AHeap.get_put,if_pos rfl]
  have hfam:∀c,c≠b→(h.put b (.cells (l.map (.int .i64)) b h.size 0)).fam c=h.fam c:=by
   intro c hc
   apply opt_ext
   intro r
   obtain⟨f,tip,thr⟩:=r
   rw[fam_iff,fam_iff]
   constructor
   ·rintro⟨cs',t0,th0,c0,q1,q2⟩
    rw[hgne c hc]at q1
    have hfb:=hroot _ _ _ _ _ q1
    rw[hgne f hfb]at q2
    exact⟨cs',t0,th0,c0,q1,q2⟩
   ·rintro⟨cs',t0,th0,c0,q1,q2⟩
    have hfb:=hroot _ _ _ _ _ q1
    exact⟨cs',t0,th0,c0,by rw[hgne c hc];exact q1,by rw[hgne f hfb];exact q2⟩
  have hfamb:h.fam b=none:=by
   cases hf:h.fam b with
   |none=>rfl
   |some r=>obtain⟨cs',t,th,q⟩:=fam_cells hf;rw[hg]at q;cases q
  have hfamb':(h.put b (.cells (l.map (.int .i64)) b h.size 0)).fam b=some (b,h.size,0):=fam_of hgb hgb
  have hcells:∀c,c≠b→(h.put b (.cells (l.map (.int .i64)) b h.size 0)).cellsOf c=h.cellsOf c:=fun c hc=>by unfold AHeap.cellsOf;rw[hgne c hc]
  have hrd:∀c,c≠b→(h.put b (.cells (l.map (.int .i64)) b h.size 0)).rd c=h.rd c:=fun c hc=>by unfold AHeap.rd;rw[hfam c hc,hcells c hc]
  have hlen:∀c,c≠b→lenOf (h.put b (.cells (l.map (.int .i64)) b h.size 0)) c=lenOf h c:=fun c hc=>by unfold lenOf;rw[hcells c hc]
  refine⟨H.dom,fun c hc=>by rw[hgne c (by simp only[AHeap.size_put]at hc;omega)];exact H.high c hc,fun c mc hc=>?_,H.own,fun b1 b2 m1 m2 h1 h2 hr hne hbb=>?_,fun c mc r hc hr=>?_,H.glob,H.low,H.bsz,fun c cs' f t th hgc=>?_,fun c mc cs' th hc hgc=>?_⟩
  ·by_cases ec:c=b
   ·subst ec
    rw[hb]at hc;cases hc
    refine⟨_,_,hgb,k2,.cells hcn (by simpa using hl) (fun h9=>?_) fun _ i v hv=>?_⟩
    ·have:=hlow c hbs;omega
    ·rw[List.getElem?_map,Option.map_eq_some_iff]at hv
     obtain⟨x,hx,rfl⟩:=hv
     exact⟨_,hc i x hx,.int μ _ _⟩
   ·obtain⟨q,q',j1,j2,j3⟩:=H.obj c mc hc
    exact⟨q,q',by rw[hgne c ec];exact j1,j2,j3.mono μ.le_refl (by rw[hrd c ec];exact id)⟩
  ·obtain⟨r,q1,q2,q3⟩:=H.alias b1 b2 m1 m2 h1 h2 hr hne hbb
   have e1:b1≠b:=fun e=>by subst e;rw[hfamb]at q1;cases q1
   have e2:b2≠b:=fun e=>by subst e;rw[hfamb]at q2;cases q2
   exact⟨r,by rw[hfam b1 e1];exact q1,by rw[hfam b2 e2];exact q2,by rw[hlen b1 e1,hlen b2 e2];exact q3⟩
  ·by_cases ec:c=b
   ·subst ec
    rw[hfamb']at hr;cases hr
    exact⟨Nat.le_of_lt hbs,Nat.le_refl _,m,hb⟩
   ·rw[hfam c ec]at hr
    exact H.fam c mc r hc hr
  ·by_cases ec:c=b
   ·subst ec
    rw[hgb]at hgc;cases hgc;exact Nat.le_refl _
   ·rw[hgne c ec]at hgc
    exact H.wf _ _ _ _ _ hgc
  ·by_cases ec:c=b
   ·subst ec
    rw[hgb]at hgc
    simp only[Option.some.injEq,AObj.cells.injEq]at hgc
    omega
   ·rw[hgne c ec]at hgc
    exact H.root _ _ _ _ hc hgc
theorem bagOf_map {μ:Emb} {h:AHeap} {args args':List Value} (hr:VRels μ args args') {b:Nat} {cs:List Int} (hb:bagOf h args=some (b,cs)):∃m,μ b=some m:=by
 induction hr with
 |nil=>simp[bagOf]at hb
 |cons hv _ ih=>
  unfold bagOf at hb
  split at hb
  ·cases hb
  ·rename_i b0 o z len cap l' heq
   simp only[List.cons.injEq]at heq
   obtain⟨rfl,rfl⟩:=heq
   split at hb
   ·rename_i cs' hz hg
    simp only[Option.some.injEq,Prod.mk.injEq]at hb
    obtain⟨rfl,rfl⟩:=hb
    cases hv with
    |lit hh=>simp[plain1]at hh
    |slice h1=>exact⟨_,h1⟩
    |slice0 h1=>exact h1 (by rintro rfl;simp at hz)
   ·exact ih hb
  ·rename_i v' l' _ heq
   simp only[List.cons.injEq]at heq
   obtain⟨_,rfl⟩:=heq
   exact ih hb
theorem conflP_ok (hE0:EnvOk P E0) (hO:∀base B,OrcOk P E0 base B) (hm:P.follows .mixedOrders=true) (hg:∀g,E0.glob g=true→E.glob g=true) (k:Nat):CallOk P E base B (conflP E0 k):=by
 intro μ h w g args args' v h' hc hr H F n hF
 unfold conflP at hc
 simp only[Option.bind_eq_some_iff,grd_some,Bool.and_eq_true,blt_iff]at hc
 obtain⟨⟨b,cs⟩,hbag,⟨hlt,hnr⟩,out,hmeet,hans⟩:=hc
 obtain⟨m,hb⟩:=bagOf_map hr hbag
 have hget:=bagOf_get hbag
 have H2:=H.rebase hg
 obtain⟨l,hl,H3⟩:=H2.unbag (fun _ h=>h) hb hget hnr
 have hrun:=meet_some hmeet _ (List.mem_map_of_mem (mem_perms hl))
 refine(callK_ok hE0 (hO _ _) hm k μ _ w g args args' _ out hrun hr H3 F n hF).mono ?_
 rintro e w' ⟨u,u',h1,μ1,hK,rfl,hv,S⟩
 exact confl_post (hX:=h.put b (.cells (l.map (.int .i64)) b h.size 0)) H rfl hans hK hv S
end
end Go.M
namespace Go.M
open Go
noncomputable def orcAll (P:Program) (fs bs ps:List Nat) (n:Nat):FuncId→List Value→AHeap→Option (Value×AHeap):=fun g args h=>
 match fs.contains g with
 |true=>confl (envOf P noOrc) n g args h
 |false=>match bs.contains g with
  |true=>conflB (envOf P noOrc) n g args h
  |false=>match ps.contains g with
   |true=>conflP (envOf P noOrc) n g args h
   |false=>none
end Go.M
