/-
  Part 11 of the library that the proof leans on.
-/
import Derived.Test.YteoljjhhdgplnaaGreatDoorL4
namespace Go.M
open Go
abbrev Out:=List Value
abbrev KV:=Value→ab→Option Out
abbrev qm:=FuncId→List Value→ab→KV→Option Out
abbrev nC:=Nat→List Value→ab→KV→Option Out
abbrev KC:=Ex→AF→ab→Option Out
def meet:List (Option Out)→Option Out
 |[]=>none
 |x::xs=>x.bind fun o=>bC (xs.all fun y=>match y with|some o'=>fZ o o'|none=>false) (some o)
def xq (h:ab) (r base:Nat) (K:KV):Option Out:=
 bC (Nat.ble base r)<|
 match h.get r with
 |some (.cy none _ _ _)=>K (.tuple #[.bool false]) h
 |some (.cy (some m) since seen last)=>(match h.get m with
  |some (.map es clock)=>
   bC (!(!seen.isEmpty&& !es.isEmpty&&es.all (fun e=>Nat.ble last e.born)))<|
   (match es.filter (fun e=> !seen.contains e.born)with
   |[]=>K (.tuple #[.bool false]) h
   |e::l=>meet ((e::l).map fun e=>bC (Nat.blt e.born since) (K (.tuple #[.bool true,e.key,e.val]) (h.put r (.cy (some m) since (seen++[e.born]) clock)))))
  |_=>none)
 |_=>none
def zT (E:Env) (base:Nat) (cK:qm) (rK:nC) (o:Oper) (f:AF) (h:ab) (K:KV):Option Out:=
 match o.op with
 | .next it false=>(match(ev E f it).bind mW with
  |some r=>xq h r base K
  |none=>none)
 |_=>
  match aI E f o with
  |some v=>K v h
  |none=>match bG E f o with
   |some q=>(match q.run h with|some v=>K v h|none=>none)
   |none=>match bc E f o with
    |some (m,hd)=>K (hd.val h.size) (h.push (m.obj h.size))
    |none=>match c7 E base f o h with
     |some (.val v,h')=>K v h'
     |some (.enter g args,h')=>cK g args h' K
     |some (.round l args,h')=>rK l args h' K
     |none=>none
def og (E:Env) (base:Nat) (cK:qm) (rK:nC) (ops:List Oper):List Oper→AF→ab→(AF→ab→Option Out)→Option Out
 |[],f,h,K=>K f h
 |o::rest,f,h,K=>
  match wanted ops o f with
  |true=>zT E base cK rK o f h fun v h'=>og E base cK rK ops rest (f.put o.dst v) h' K
  |false=>og E base cK rK ops rest (f.put o.dst undef) h K
abbrev Jw:=Code→AF→ab→KC→Option Out
def eg (E:Env) (base:Nat) (run:Jw):qm:=fun g args h K=>
 match E.func g with
 |none=>none
 |some fn=>match E.uZ base g args h with
  |some r=>K r.1 r.2
  |none=>match fn.body with
   |none=>none
   |some c=>bC (Nat.ble args.length fn.ntmps)<|run c (AF.enter args fn.ntmps) h fun ex f h'=>
    match ex with
    | .exit _=>none
    |_=>match dg E h' f fn.results.toList with
     |some vs=>K (cQ vs) h'
     |none=>none
def jq (base:Nat) (run:Jw):nC:=fun l args h K=>
 bC (Nat.ble base l)<|
 match h.get l with
 |some (.loop .ready _ f ps iL body)=>bC (Nat.beq ps.length args.length&&aW iL&&aW body)<|
  run iL (AF.jM (ps.zip args) f) h fun ex f1 h1=>
   (match ex with
   | .normal=>(match h1.get l with
    |some (.loop .ready p1 f0 fE p4 jT)=>
     run body f1 (h1.put l (.loop .busy p1 f0 fE p4 jT)) fun Ua _ h2=>
      (match h2.get l with
      |some (.loop _ _ f0 fE p4 jT)=>
       (match Ua with
       | .normal=>K (.bool true) (h2.put l (.loop .ready none f0 fE p4 jT))
       | .ret=>K (.bool false) (h2.put l (.loop .done (some .ret) f0 fE p4 jT))
       | .exit id=>K (.bool false) (h2.put l (.loop .done (some (.exit id)) f0 fE p4 jT)))
      |_=>none)
    |_=>none)
   |_=>none)
 |_=>none
noncomputable def aH (E:Env) (base:Nat):Nat→Jw
 |0,_,_,_,_=>none
 |n+1,c,f,h,K=>
  match c with
  | .skip=>K .normal f h
  | .region _ ops draw=>(match draw with
   |false=>og E base (eg E base (aH E base n)) (jq base (aH E base n)) ops.toList ops.toList f h fun f' h'=>K .normal f' h'
   |true=>(match k8 E base (a7 E base n) ops true f h with
    |some (ex,f',h')=>K ex f' h'
    |none=>none))
  | .seq a b=>aH E base n a f h fun ex f' h'=>(match ex with
   | .normal=>aH E base n b f' h' K
   |ex=>K ex f' h')
  | .cond c t e=>(match(ev E f c).bind Cg with
   |some true=>aH E base n t f h K
   |some false=>aH E base n e f h K
   |none=>none)
  | .block id b=>aH E base n b f h fun ex f' h'=>(match ex with
   | .exit mS=>bif Nat.beq mS id then K .normal f' h' else K (.exit mS) f' h'
   |ex=>K ex f' h')
  | .loop b=>aH E base n b f h fun ex f' h'=>(match ex with
   | .normal=>aH E base n (.loop b) f' h' K
   |ex=>K ex f' h')
  | .exit id=>K (.exit id) f h
  | .ret=>K .ret f h
  | .rangeFunc g ps iL body=>(match ev E f g with
   |some (.func (.func g) first captured)=>bC (Nat.ble base h.size)<|
    eg E base (aH E base n) g (first.toList++[.func (.yield h.size) #[] #[]]++captured.toList) (h.push (.loop .ready none f ps.toList iL body)) fun _ h1=>
     (match h1.get h.size with
     |some (.loop st p f0 KJ u5 nR)=>bC (st != .busy) (match p with
      |none=>K .normal f (h1.put h.size (.loop .exhausted p f0 KJ u5 nR))
      |some c=>aH E base n c f (h1.put h.size (.loop .exhausted p f0 KJ u5 nR)) K)
     |_=>none)
   |_=>none)
  |_=>none
noncomputable def HX (E:Env) (base n:Nat):qm:=eg E base (aH E base n)
section
variable {P:Program} {E:Env} {μ:bn} {f:AF} {a:Act} {base B:Nat} {h:ab} {w:World}
theorem cD.get' {l l':List MapEntry} (hs:cD μ l l'):∀(i:Nat) (e':MapEntry),l'[i]? =some e'→∃e,l[i]? =some e∧aq μ e.key e'.key∧aq μ e.val e'.val∧e.born=e'.born:=by
 induction hs with
 |nil=>intro i e' h;simp at h
 |cons q1 q2 q3 _ ih=>
  intro i e' h;cases i with
  |zero=>simp at h;subst h;exact⟨_,rfl,q1,q2,q3⟩
  |succ i=>simpa using ih i e' (by simpa using h)
theorem y6 (n:Nat) (hn:0<n) (w:World):∃i d,i<n∧(choose (.mapNext n)).run P w= .ok i {w with drawn:=d}:=by
 rw[run_choose];by_cases hf:(Question.mapNext n).forced=true
 ·rw[if_pos hf];exact⟨0,w.drawn,hn,rfl⟩
 ·rw[if_neg hf];exact⟨_,w.drawn+1,Nat.mod_lt _ hn,rfl⟩
theorem zU {l:List (Option Out)} {o:Out} (h:meet l=some o):∀x∈l,x=some o:=by
 cases l with
 |nil=>intro x hx;simp at hx
 |cons y ys=>
  simp only[meet,Option.bind_eq_some_iff,aj,Option.some.injEq,List.all_eq_true]at h;obtain⟨o',rfl,h2,rfl⟩:=h;intro x hx;rcases List.mem_cons.1 hx with rfl |hx
  ·rfl
  ·have:=h2 x hx;cases x with
   |none=>simp at this
   |some o2=>simp only at this;rw[pB this]
theorem Jx (H:bf E base B μ h w) {r:Nat} {m:MT} {K:KV} {out:Out} (ty:TypeId) (hk:xq h r base K=some out) (hb:μ r=some m):
 ∃v h' v' w',K v h'=some out∧(Instr.next (.pointer (some ⟨m.r,0,none⟩)) false ty).run P w= .ok v' w'∧aq μ v v'∧Step E base B μ h w μ h' w':=by
 unfold xq at hk;simp only[aj,aG]at hk;obtain⟨br,hk⟩:=hk;obtain⟨o1,o2,k1,k2,k3⟩:=H.obj r m hb;split at hk
 ·rename_i since seen last hg;rw[hg]at k1;cases k1;cases k3 with
  |lK ju=>
   have pz:=run_getObj_map (P:=P) k2 (fun _ _ _=>by simp);refine⟨_,_,_,w,hk,?_,.dC (by simpa using ax.cons (.bool μ false) .nil),.refl H⟩;unfold Instr.next;simp only[Sem.run_bind,pz,Result.andThen_ok];rfl
 ·rename_i mm since seen last hg;rw[hg]at k1;cases k1;cases k3 with
  |cy hkm ju=>
   rename_i mk;have pz:=run_getObj_map (P:=P) k2 (fun _ _ _=>by simp);split at hk
   ·rename_i es clock Lm;obtain⟨p1,p2,j1,j2,j3⟩:=H.obj mm mk hkm;rw[Lm]at j1;cases j1;cases j3 with
    |map hs=>
     rename_i bT;have E5:=run_getObj_map (P:=P) j2 (fun _ _ _=>by simp);simp only[aj]at hk;obtain⟨j5,hk⟩:=hk;have hlen:=hs.length;have Tf:bT.isEmpty=es.isEmpty:=by
      cases es<;>cases h9:bT.toList<;>rw[h9]at hlen<;>simp at hlen
      ·have:bT= #[]:=by apply Array.ext';simp[h9]
       simp[this]
      ·have:bT.size≠0:=by have:=congrArg List.length h9;simp at this;omega
       simp[Array.isEmpty,this]
     have kr:(bT.all fun e=>decide (e.born≥last))=es.all (fun e=>Nat.ble last e.born):=by
      rw[←Array.all_toList,←hs.CE (fun n=>decide (n≥last))]
      congr 1
      funext e
      rw[Bool.eq_iff_iff,aG];simp
     have CG:(!seen.toArray.isEmpty&& !bT.isEmpty&&bT.all fun e=>decide (e.born≥last))=false:=by
      rw[Tf,kr];have:seen.toArray.isEmpty=seen.isEmpty:=by cases seen<;>simp
      rw[this];simpa only[Bool.not_eq_true']using j5
     have p5:=hs.filter (fun n=> !seen.contains n);have zl:(bT.filter fun e=> !seen.toArray.contains e.born).toList=bT.toList.filter (fun e=> !seen.contains e.born):=by
      simp
     generalize hL:(bT.filter fun e=> !seen.toArray.contains e.born)=left at zl;split at hk
     ·rename_i hf;rw[hf]at p5;have vo:left= #[]:=by
       apply Array.ext';rw[zl];cases vY:bT.toList.filter (fun e=> !seen.contains e.born)with
       |nil=>rfl
       |cons x y=>rw[vY]at p5;cases p5
      refine⟨_,_,_,w,hk,?_,.dC (by simpa using ax.cons (.bool μ false) .nil),.refl H⟩;unfold Instr.next;simp only[Sem.run_bind,pz,E5,Result.andThen_ok,CG,Bool.false_eq_true,if_false,hL,vo];simp[Question.forced]
     ·rename_i e0 l0 hf;rw[←hf]at hk;rw[←zl]at p5;have IW:=zU hk;have hk:∀e∈es.filter (fun e=> !seen.contains e.born),e.born<since∧K (.tuple #[.bool true,e.key,e.val]) (h.put r (.cy (some mm) since (seen++[e.born]) clock))=some out:=fun e he=>by
       have:=IW _ (List.mem_map_of_mem he);simp only[aj,aR]at this;exact this
      have fG:0<left.size:=by
       have:=p5.length;rw[hf]at this;simp at this;omega
      have hold:∀x∈left,x.born<since:=by
       intro x hx;obtain⟨i,hi⟩:=List.mem_iff_getElem?.1 (by simpa using hx:x∈left.toList);obtain⟨e,h1,_,_,h4⟩:=p5.get' i x hi;rw[←h4];exact(hk e (List.mem_of_getElem? h1)).1
      have f1:(left.filter fun x=>decide (x.born<since))=left:=by
       apply Array.filter_eq_self.2;intro x hx;simpa using hold x hx
      have f2:(left.filter fun x=>decide (x.born≥since))= #[]:=by
       apply Array.filter_eq_empty_iff.2;intro x hx;have:=hold x hx;simp;omega
      have f3:left.isEmpty=false:=by
       cases hle:left.isEmpty with
       |false=>rfl
       |true=>
        have:left= #[]:=by simpa using hle
        rw[this]at fG;simp at fG
      obtain⟨i,d,hi,Uq⟩:=y6 (P:=P) left.size fG w;have hgi:=Array.getElem?_eq_getElem hi;obtain⟨e,h1,h2,h3,h4⟩:=p5.get' i left[i] (by rw[Array.getElem?_toList];exact hgi);obtain⟨hbe,hKe⟩:=hk e (List.mem_of_getElem? h1);have Hd:=H.congr (w':={w with drawn:=d}) rfl;have Lk:=fun o=>cd (P:=P) (w:={w with drawn:=d}) (o:=o) k2 (fun _ _ _=>by simp);have st:=Step.put (o:=.cy (some mm) since (seen++[e.born]) clock) Hd hb br hg rfl rfl (AK.set {w with drawn:=d} m.r (.mapIter (some mk.r) since (seen.toArray.push left[i].born) clock) (Hd.lt hb)) (by
       have:=iM.cy (μ:=μ) (h:=h.put r (.cy (some mm) since (seen++[e.born]) clock)) (base:=base) (b:=r) (m:=m) (since:=since) (last:=clock) (seen:=seen++[e.born]) hkm ju;rw[h4]at this ⊢;simpa using this)
      refine⟨_,_,_,_,hKe,?_,.dC (by simpa using ax.cons (.bool μ true) (.cons h2 (.cons h3 .nil))),(Step.drawn H d).trans st⟩;unfold Instr.next;simp only[Sem.run_bind,pz,E5,Result.andThen_ok,CG,Bool.false_eq_true,if_false,hL,f1,f2,f3];have f4:(#[]++(left++ #[]).map some:Array (Option MapEntry))=left.map some:=by simp
      rw[f4];simp only[Array.size_map,Uq,Result.andThen_ok,Array.getElem?_map,hgi,Option.map_some,Sem.run_bind,Lk,Sem.run_pure]
   ·cases hk
 ·cases hk
end
def P3 (E:Env) (base B:Nat) (μ:bn) (h:ab) (w:World) (K:KV) (out:Out):Ending→World→Prop:=
 fun e w'=>∃v v' h' aS,K v h'=some out∧e= .returned v'∧aq aS v v'∧Step E base B μ h w aS h' w'
def vF (P:Program) (E:Env) (base B:Nat) (cK:qm):Prop:=
 ∀(μ:bn) (h:ab) (w:World) (g:FuncId) (args:List Value) (args':Array Value) (K:KV) (out:Out),cK g args h K=some out→ax μ args args'.toList→bf E base B μ h w→
  ∀(F:Fence) (n:Nat),gV F→CallsIn F n P g args' w (P3 E base B μ h w K out)
def xr (P:Program) (E:Env) (base B:Nat) (rK:nC):Prop:=
 ∀(μ:bn) (h:ab) (w:World) (l:Nat) (args:List Value) (K:KV) (out:Out) (m:MT) (f0:AF) (ps:List Tmp) (iL body:Code) (st:LoopState) (p:Option Code) (fn:FuncId) (tmps:Array Value),
  rK l args h K=some out→h.get l=some (.loop st p f0 ps iL body)→μ l=some m→bf E base B μ h w→cU μ (AF.jM (ps.zip args) f0) tmps→
  ∀(F:Fence) (n:Nat),gV F→RoundIn F n P m.r fn tmps iL body w (P3 E base B μ h w K out)
def xu (E:Env) (cK:qm):Prop:=∀g args h K out,cK g args h K=some out→(E.func g).isSome=true
def tR (rK:nC):Prop:=∀l args h K out,rK l args h K=some out→∃st p f0 ps iL body,h.get l=some (.loop st p f0 ps iL body)∧ps.length=args.length
section
variable {P:Program} {E:Env} {μ:bn} {f:AF} {a:Act} {base B:Nat} {h:ab} {w:World} {cK:qm} {rK:nC}
theorem MF {o:Oper} {K:KV} {out:Out} {k:ab} (h:zT E base cK rK o f k K=some out):∀c,o.op≠ .defer c:=by
 intro c hc;unfold zT at h;simp only[aI,bG,bc,c7,hc]at h;cases h
theorem P4 (hE:bw P E) (yO:vF P E base B cK) (AY:xr P E base B rK) (AZ:xu E cK) (A0:tR rK) {F:Fence} (hF:gV F) {n:Nat} (hf:cU μ f a.tmps) (H:bf E base B μ h w) {o:Oper} {K:KV} {out:Out} (hr:zT E base cK rK o f h K=some out)
 {next:Act→World→Prop} {Q:Exit→Act→World→Prop} (hn:∀aS v v' h' w',K v h'=some out→aq aS v v'→Step E base B μ h w aS h' w'→next (a.put o.dst v') w'):o.wpIn F n P a w next Q:=by
 have hg:gk E μ:=H.dv;refine⟨fun _ _=>hF.fn _,?_⟩;rw[Oper.semAt_eq _ _ _ (MF hr)];unfold zT at hr;split at hr
 ·rename_i it jK;split at hr
  ·rename_i r hit;simp only[Option.bind_eq_some_iff]at hit;obtain⟨v1,h1,h2⟩:=hit;have e:=oJ h2;subst e;obtain⟨m,hb,ex⟩:=(a8 hg hf h1).jZ;have ju:m.s=0:=by
    obtain⟨o1,o2,k1,k2,k3⟩:=H.obj r m hb;unfold xq at hr;simp only[aj]at hr;have pA:=hr.2;cases k3 with
    |iQ hs=>exact hs
    |lK hs=>exact hs
    |cy _ hs=>exact hs
    |_=>rw[k1]at pA;simp at pA
   obtain⟨v,h',v',w',q0,q1,q2,q3⟩:=Jx (P:=P) H o.type hr hb;rw[ju]at ex;have he:(execOp a.eval o).run P w= .ok (.value v') w':=by
    unfold execOp;rw[jK];simp only[ex,Nat.add_zero,Sem.run_bind];rw[q1];simp
   rw[he];exact hn μ v v' h' w' q0 q2 q3
  ·cases hr
 ·split at hr
  ·rename_i v hp;obtain⟨v',q1,q2⟩:=py hE hg hf hp;rw[q2 w];exact hn μ _ v' _ w hr q1 (.refl H)
  ·split at hr
   ·rename_i q hq;split at hr
    ·rename_i v hv;obtain⟨v',q1,q2⟩:=tf hE hf H hq hv;rw[q2];exact hn μ _ v' _ w hr q1 (.refl H)
    ·cases hr
   ·split at hr
    ·rename_i md hd eC;obtain⟨o',k,hv,S⟩:=m3 hE hg hf eC;rw[S.run w];have st:=Step.alloc (o:=md.obj h.size) H (Cs.mk' w o') k (fun cs f cO aO hh=>by cases md<;>simp[Made.obj]at hh;exact⟨hh.2.1.symm,hh.2.2.1.symm⟩) (S.obj _ _ _ _ _ (gh H.fresh));exact hn _ _ _ _ _ hr (S.val _ _ _ (bO _ _ _)) st
    ·split at hr
     ·rename_i v h' he;obtain⟨aS,nx,v',w',q1,q2,q3,q4⟩:=v5 hE hf H he;rw[q1];rcases q2 with rfl |⟨rfl,rfl⟩
      ·exact hn aS _ v' _ w' hr q3 q4
      ·exact hn aS _ undef _ w' hr q3 q4
     ·rename_i g args h' he;have v7:=AZ _ _ _ _ _ hr;obtain⟨args',e,q1,q2⟩:=qC hE hf H he v7;subst e;rw[q2];refine⟨hF.ok n,(yO μ h' w g args args' K out hr q1 H F (n - 1) hF).mono ?_⟩;rintro e w' ⟨v,v',h2,aS,k0,rfl,k1,k2⟩;exact hn aS v v' h2 w' k0 k1 k2
     ·rename_i l args h' he;obtain⟨st,p,f0,ps,iL,body,hl,hlen⟩:=A0 _ _ _ _ _ hr;have hh:h'=h:=by
       obtain⟨dst,op,type,pos,after,guard⟩:=o;cases op<;>simp only[c7]at he<;>first|cases he|skip
       all_goals simp only[Option.bind_eq_some_iff,Option.some.injEq,Prod.mk.injEq,aj,reduceCtorEq,false_and,and_false,exists_false]at he
       ·obtain⟨_,_,_,_,he⟩:=he;split at he
        ·split at he<;>simp at he
        ·cases he
       ·obtain⟨_,_,he⟩:=he;split at he
        ·first|(simp at he;done)|(obtain⟨_,_,he⟩:=he;simp at he;done)|(simp only[Option.bind_eq_some_iff]at he;obtain⟨_,_,he⟩:=he;cases he)
        ·try simp only[Option.bind_eq_some_iff]at he
         obtain⟨_,_,he⟩:=he;split at he
         ·simp at he
         ·simp only[Option.some.injEq,Prod.mk.injEq]at he;exact he.2.symm
         ·cases he
        ·cases he
      subst hh;obtain⟨m,args',lo,_,hb,hw,q1,q2,q3⟩:=qE (P:=P) hf H he hl hlen;rw[q2];refine⟨hF.ok n,(AY μ h' w l args K out m f0 ps iL body st p lo.fn _ hr hl hb H (na q3 q1) F (n - 1) hF).mono ?_⟩;rintro e w' ⟨v,v',h2,aS,k0,rfl,k1,k2⟩;exact hn aS v v' h2 w' k0 k1 k2
     ·cases hr
theorem xw (hE:bw P E) (yO:vF P E base B cK) (AY:xr P E base B rK) (AZ:xu E cK) (A0:tR rK) {F:Fence} (hF:gV F) {n:Nat} {ops:Array Oper} {Q:Exit→Act→World→Prop} {K:AF→ab→Option Out} {out:Out}:∀(rest:List Oper) (k:Nat) (μ:bn) (f:AF) (h:ab) (a:Act) (w:World),
 (∀j,rest[j]? =ops[k+j]?)→og E base cK rK ops.toList rest f h K=some out→cU μ f a.tmps→bf E base B μ h w→
 (∀f' h' aS a' w',K f' h'=some out→cU aS f' a'.tmps→a'.defers=a.defers→Step E base B μ h w aS h' w'→Q .normal a' w')→wpOpsIn F n P ops Q (List.range' k rest.length) a w
 |[],k,μ,f,h,a,w,_,ha,hf,H,hQ=>hQ _ _ μ a w ha hf rfl (.refl H)
 |o::rest,k,μ,f,h,a,w,hk,ha,hf,H,hQ=>by
  have h0:ops[k]? =some o:=by simpa using(hk 0).symm
  have oK:∀j,rest[j]? =ops[k+1+j]? :=fun j=>by have:=hk (j+1);simpa[Nat.add_assoc,Nat.add_comm 1 j]using this
  simp only[List.length_cons,List.range'_succ,wpOpsIn,h0,qF hf];simp only[og]at ha;split at ha
  ·rename_i hw;rw[if_pos hw];refine P4 hE yO AY AZ A0 hF hf H ha fun aS v v' h' w' q0 q1 q2=>?_;refine xw hE yO AY AZ A0 hF rest (k+1) aS (f.put o.dst v) h' _ w' oK q0 ((hf.mono q2.le).put q1 o.dst) q2.rel fun f2 h2 uq a2 w2 p0 p1 p2 p3=>?_;exact hQ f2 h2 uq a2 w2 p0 p1 (by rw[p2];cases o.dst<;>rfl) (q2.trans p3)
  ·rename_i hw;rw[if_neg (by rw[hw];simp)];refine⟨fun _ _=>hF.fn _,?_⟩;refine xw hE yO AY AZ A0 hF rest (k+1) μ (f.put o.dst undef) h _ w oK ha (hf.put (.undef μ) o.dst) H fun f2 h2 uq a2 w2 p0 p1 p2 p3=>?_;exact hQ f2 h2 uq a2 w2 p0 p1 (by rw[p2];cases o.dst<;>rfl) p3
def BI (P:Program) (E:Env) (base B k:Nat):Prop:=
 ∀(c:Code) (f:AF) (h:ab) (K:KC) (out:Out),aH E base k c f h K=some out→
  ∀(μ:bn) (a:Act) (w:World) (W0:Nat) (rs:List Nat),cU μ f a.tmps→bf E base B μ h w→bW W0 μ w a.defers rs→W0≤w.heap.size→
  ∀(F:Fence) (n:Nat) (Q:Exit→Act→World→Prop),gV F→(F.round=none∨aW c=true)→
  (∀ex f' h' aS a' w' CJ,K ex f' h'=some out→cU aS f' a'.tmps→bW W0 aS w' a'.defers CJ→Step E base B μ h w aS h' w'→Q (oL ex) a' w')→c.wpIn F n P Q a w
theorem DF (run:Jw):xu E (eg E base run):=by
 intro g args h K out hr;unfold eg at hr;split at hr
 ·cases hr
 ·rename_i fn WK;rw[WK];rfl
theorem Jy (run:Jw):tR (jq base run):=by
 intro l args h K out hr;unfold jq at hr;simp only[aj]at hr;obtain⟨_,hr⟩:=hr;split at hr
 ·rename_i p f ps iL body hg;simp only[aj,Bool.and_eq_true,beq_iff]at hr;exact⟨_,_,_,_,_,_,hg,hr.1.1.1⟩
 ·cases hr
theorem HY (hE:bw P E) (hO:jy P E base B) {k:Nat} (hk:BI P E base B k):vF P E base B (eg E base (aH E base k)):=by
 intro μ h w g args args' K out hc hr H F n hF;unfold eg at hc;split at hc
 ·cases hc
 rename_i fn h1;split at hc
 ·rename_i r ho;refine(hO μ h w g args args' r.1 r.2 ho hr H F n hF).mono ?_;rintro e w' ⟨v',aS,rfl,k1,k2⟩;exact⟨_,v',_,aS,hc,rfl,k1,k2⟩
 ·split at hc
  ·cases hc
  rename_i c h2;simp only[aj,aG]at hc;obtain⟨hn,hc⟩:=hc;obtain⟨f1,f2,f3⟩:=hE.func _ _ h1;have fin:CallsIn F.plain n P g args' w (P3 E base B μ h w K out):=by
   refine callsIn_of_wp_marks f1 h2 (hF.fn _) ?_ rfl;refine hk c _ h _ out hc μ _ w w.heap.size [] (zm hr hn) H .nil (Nat.le_refl _) F.plain n _ hF.plain (.inl rfl) ?_;intro ex fe he aS a' w' CJ q0 q1 q2 q3
   have lv:∀vs,dg E he fe fn.results.toList=some vs→K (cQ vs) he=some out→LeavesInM F.plain n P fn a'.tmps (P3 E base B μ h w K out) a'.defers .returning w':=fun vs h3 h4=>
    nb a'.defers CJ w' q2 q3 fun w2 s2=>by
     obtain⟨v',p1,p2⟩:=ux (P:=P) hE q1 s2.rel h3;exact⟨v',p1,_,v',_,aS,h4,rfl,p2,s2⟩
   cases ex with
   |exit id=>simp at q0
   |normal=>
    simp only at q0;split at q0
    ·rename_i vs h3;exact lv vs h3 q0
    ·cases q0
   |ret=>
    simp only at q0;split at q0
    ·rename_i vs h3;exact lv vs h3 q0
    ·cases q0
  exact fin
end
section
variable {P:Program} {E:Env} {base B:Nat}
theorem MG {k:Nat} (hk:BI P E base B k):xr P E base B (jq base (aH E base k)):=by
 intro μ h w l args K out m f0 ps iL body st p fn tmps hr hl hb H hf F n hF;unfold jq at hr;simp only[aj,aG]at hr;obtain⟨br,hr⟩:=hr;rw[hl]at hr;cases st with
 |ready=>
  simp only[aj,Bool.and_eq_true,beq_iff]at hr;obtain⟨⟨⟨hlen,EJ⟩,oi⟩,hr⟩:=hr;refine roundIn_of_wpIn (hF.fn _) ?_;refine hk iL _ h _ out hr μ _ w w.heap.size [] hf H .nil (Nat.le_refl _) (F.inRound m.r) n _ (hF.inRound _) (.inr EJ) ?_;intro ex1 f1 h1 fK a1 w1 rQ q0 q1 q2 s1;cases ex1 with
  |exit id=>simp at q0
  |ret=>simp at q0
  |normal=>
   simp only at q0;split at q0
   ·rename_i p1 Z4 fE p4 jT CH;have oC:=s1.le _ _ hb;obtain⟨WN,e1,e2,e3,s2⟩:=mh s1.rel oC br CH .busy p1;have Ti:Step E base B fK h1 w1 fK (h1.put l (.loop .busy p1 Z4 fE p4 jT)) {w1 with heap:=w1.heap.setIfInBounds m.r (.loop {WN with state:=.busy})}:=by
     rw[←e3]at s2 ⊢;exact s2
    refine⟨{w1 with heap:=w1.heap.setIfInBounds m.r (.loop {WN with state:=.busy})},?_,?_⟩
    ·unfold Instr.beginRound;simp only[Sem.run_bind,run_getLoop (P:=P) e1,Result.andThen_ok,cd (P:=P) e1 (fun _ _ _=>by simp),e2,Sem.run_pure]
    refine hk body f1 _ _ out q0 fK a1 _ w.heap.size rQ q1 Ti.rel (q2.step Ti) (by rw[Array.size_setIfInBounds];exact s1.grow.size) (F.inRound m.r) n _ (hF.inRound _) (.inr oi) ?_;intro ex f2 h2 u7 a3 w3 rs3 q0 q3 q4 s3;have nf:=(s1.trans Ti);have KN:=s3.le _ _ oC;split at q0
    ·rename_i st2 p2 Z5 nT Th Lp sY;have key:∀(He:LoopState) (jump:Option Code),(jump.isNone=true→He= .ready)→(jump.isNone=false→He= .done)→∃w4,(Instr.endRound m.r jump).run P w3= .ok (.bool jump.isNone) w4∧Step E base B u7 h2 w3 u7 (h2.put l (.loop He jump Z5 nT Th Lp)) w4:=by
      intro He jump Z6 RD;obtain⟨Pr,d1,d2,d3,s4⟩:=mh s3.rel KN br sY He jump;refine⟨_,?_,s4⟩;unfold Instr.endRound;simp only[Sem.run_bind,run_getLoop (P:=P) d1,Result.andThen_ok,cd (P:=P) d1 (fun _ _ _=>by simp),Sem.run_pure];cases hj:jump.isNone with
      |true=>rw[Z6 hj];simp
      |false=>rw[RD hj];simp
     cases ex with
     |normal=>
      obtain⟨w4,k1,k2⟩:=key .ready none (fun _=>rfl) (fun h=>by simp at h);exact⟨_,w4,k1,_,_,_,u7,q0,rfl,.bool _ _,(nf.trans s3).trans k2⟩
     |ret=>
      obtain⟨w4,k1,k2⟩:=key .done (some .ret) (fun h=>by simp at h) (fun _=>rfl);exact⟨_,w4,k1,_,_,_,u7,q0,rfl,.bool _ _,(nf.trans s3).trans k2⟩
     |exit id=>
      obtain⟨w4,k1,k2⟩:=key .done (some (.exit id)) (fun h=>by simp at h) (fun _=>rfl);exact⟨_,w4,k1,_,_,_,u7,q0,rfl,.bool _ _,(nf.trans s3).trans k2⟩
    ·cases q0
   ·cases q0
 |busy=>cases hr
 |done=>cases hr
 |exhausted=>cases hr
theorem P5 (hE:bw P E) (hO:jy P E base B) (hD:A6 P E base B):∀k,BI P E base B k∧
 (∀(b:Code) (f:AF) (h:ab) (K:KC) (out:Out),aH E base k (.loop b) f h K=some out→
  ∀(μ:bn) (a:Act) (w:World) (W0:Nat) (rs:List Nat),cU μ f a.tmps→bf E base B μ h w→bW W0 μ w a.defers rs→W0≤w.heap.size→
  ∀(F:Fence) (n:Nat) (Q:Exit→Act→World→Prop),gV F→(F.round=none∨aW b=true)→
  (∀ex f' h' aS a' w' CJ,K ex f' h'=some out→cU aS f' a'.tmps→bW W0 aS w' a'.defers CJ→Step E base B μ h w aS h' w'→Q (oL ex) a' w')→Code.roundsIn F n P b Q k a w):=by
 intro k
 induction k with
 |zero=>exact⟨fun c f h K out hr=>by simp[aH]at hr,fun b f h K out hr=>by simp[aH]at hr⟩
 |succ k ih=>
  obtain⟨hk,Lq⟩:=ih;have rR:=HY hE hO hk;have A8:=MG hk
  have CM:∀(b:Code) (f:AF) (h:ab) (K:KC) (out:Out),aH E base (k+1) (.loop b) f h K=some out→
   ∀(μ:bn) (a:Act) (w:World) (W0:Nat) (rs:List Nat),cU μ f a.tmps→bf E base B μ h w→bW W0 μ w a.defers rs→W0≤w.heap.size→
   ∀(F:Fence) (n:Nat) (Q:Exit→Act→World→Prop),gV F→(F.round=none∨aW b=true)→
   (∀ex f' h' aS a' w' CJ,K ex f' h'=some out→cU aS f' a'.tmps→bW W0 aS w' a'.defers CJ→Step E base B μ h w aS h' w'→Q (oL ex) a' w')→Code.roundsIn F n P b Q (k+1) a w:=by
   intro b f h K out hr μ a w W0 rs hf H hm hW F n Q hF v9 hQ;simp only[aH]at hr;rw[roundsIn_succ];refine hk b f h _ out hr μ a w W0 rs hf H hm hW F n _ hF v9 fun ex f1 h1 fK a1 w1 rQ q0 q1 q2 s1=>?_;cases ex with
   |normal=>exact Lq b f1 h1 K out q0 fK a1 w1 W0 rQ q1 s1.rel q2 (Nat.le_trans hW s1.grow.size) F n Q hF v9 fun ex f2 h2 uq a2 w2 Tj p0 p1 p2 s2=>hQ ex f2 h2 uq a2 w2 Tj p0 p1 p2 (s1.trans s2)
   |exit id=>exact hQ _ f1 h1 fK a1 w1 rQ q0 q1 q2 s1
   |ret=>exact hQ _ f1 h1 fK a1 w1 rQ q0 q1 q2 s1
  refine⟨?_,CM⟩;intro c f h K out hr μ a w W0 rs hf H hm hW F n Q hF v9 hQ;cases c with
  |skip=>exact wpIn_skip (hQ .normal f h μ a w rs (by simpa[aH]using hr) hf hm (.refl H))
  |exit id=>exact wpIn_exit (hQ (.exit id) f h μ a w rs (by simpa[aH]using hr) hf hm (.refl H))
  |ret=>exact wpIn_ret (hQ .ret f h μ a w rs (by simpa[aH]using hr) hf hm (.refl H))
  |seq x y=>
   simp only[aH]at hr;have hx:F.round=none∨aW x=true:=v9.imp (fun h=>h) fun h=>by simp[aW]at h;exact h.1
   have hy:F.round=none∨aW y=true:=v9.imp (fun h=>h) fun h=>by simp[aW]at h;exact h.2
   refine wpIn_seq ?_;refine hk x f h _ out hr μ a w W0 rs hf H hm hW F n _ hF hx fun ex f1 h1 fK a1 w1 rQ q0 q1 q2 s1=>?_;cases ex with
   |normal=>exact hk y f1 h1 K out q0 fK a1 w1 W0 rQ q1 s1.rel q2 (Nat.le_trans hW s1.grow.size) F n Q hF hy fun ex f2 h2 uq a2 w2 Tj p0 p1 p2 s2=>hQ ex f2 h2 uq a2 w2 Tj p0 p1 p2 (s1.trans s2)
   |exit id=>exact hQ _ f1 h1 fK a1 w1 rQ q0 q1 q2 s1
   |ret=>exact hQ _ f1 h1 fK a1 w1 rQ q0 q1 q2 s1
  |cond cx x y=>
   simp only[aH]at hr;have hx:F.round=none∨aW x=true:=v9.imp (fun h=>h) fun h=>by simp[aW]at h;exact h.1
   have hy:F.round=none∨aW y=true:=v9.imp (fun h=>h) fun h=>by simp[aW]at h;exact h.2
   cases hb:(ev E f cx).bind Cg with
   |none=>rw[hb]at hr;cases hr
   |some b=>
    simp only[Option.bind_eq_some_iff]at hb;obtain⟨v,h1,h2⟩:=hb;have hb:(ev E f cx).bind Cg=some b:=by simp[h1,h2]
    rw[hb]at hr;have e:=vW h2;subst e;have hc:=(a8 H.dv hf h1).ar rfl;cases b with
    |true=>exact wpIn_cond_true hc (hk x f h K out hr μ a w W0 rs hf H hm hW F n Q hF hx hQ)
    |false=>exact wpIn_cond_false hc (hk y f h K out hr μ a w W0 rs hf H hm hW F n Q hF hy hQ)
  |block id b=>
   simp only[aH]at hr;have bL:F.round=none∨aW b=true:=v9.imp (fun h=>h) fun h=>by simpa[aW]using h
   refine wpIn_block ?_;refine hk b f h _ out hr μ a w W0 rs hf H hm hW F n _ hF bL fun ex f1 h1 fK a1 w1 rQ q0 q1 q2 s1=>?_;cases ex with
   |normal=>exact hQ _ f1 h1 fK a1 w1 rQ q0 q1 q2 s1
   |ret=>exact hQ _ f1 h1 fK a1 w1 rQ q0 q1 q2 s1
   |exit mS=>
    simp only[bZ]at q0;show(if mS=id then Q .normal a1 w1 else Q (.exit mS) a1 w1);by_cases e:mS=id
    ·rw[if_pos (beq_iff.2 e)]at q0;rw[if_pos e];exact hQ _ f1 h1 fK a1 w1 rQ q0 q1 q2 s1
    ·rw[if_neg (fun hh=>e (beq_iff.1 hh))]at q0;rw[if_neg e];exact hQ _ f1 h1 fK a1 w1 rQ q0 q1 q2 s1
  |loop b=>
   exact wpIn_loop_rounds (k+1) (CM b f h K out hr μ a w W0 rs hf H hm hW F n Q hF (v9.imp (fun h=>h) fun h=>by simpa[aW]using h) hQ)
  |region id ops draw=>
   simp only[aH]at hr;cases draw with
   |false=>
    refine wpIn_region ?_;have:=xw hE rR A8 (DF _) (Jy _) hF (n:=n) (ops:=ops) (Q:=Q) ops.toList 0 μ f h a w (fun j=>by simp) hr hf H fun f' h' fK a1 w1 q0 q1 q2 s1=>hQ _ f' h' fK a1 w1 rs q0 q1 (by rw[q2];exact hm.step s1) s1;rw[List.range_eq_range',←Array.length_toList];exact this
   |true=>
    simp only at hr;split at hr
    ·rename_i ex f' h' aa9;have XZ:a7 E base (k+1) (.region id ops true) f h=some (ex,f',h'):=by simpa only[a7]using aa9
     exact(codeOk hE hO hD (k+1)).1 _ f h ex f' h' XZ μ a w W0 rs hf H hm hW F n Q hF v9 fun aS a' w' CJ q1 q2 s1=>hQ ex f' h' aS a' w' CJ hr q1 q2 s1
    ·cases hr
  |rangeFunc g ps iL body=>
   have vp:F.round=none:=v9.resolve_right (by simp[aW]);simp only[aH]at hr;split at hr
   ·rename_i gid first captured h1
    simp only[aj,aG]at hr;obtain⟨br,hc⟩:=hr;have yA:=a8 H.dv hf h1;generalize hq:a.eval g=q at yA;cases yA with
    |lit hh=>simp[ay]at hh
    |func t1 t2 t3 t4=>
     rename_i qD iU;refine wpIn_rangeFunc fun fn _=>?_
     let wA:World:={w with heap:=w.heap.push (.deferred (some []))}
     let lo:Loop:={state:=.ready,pending:=none,fn:=fn,tmps:=a.tmps,params:=ps,assign:=iL,body:=body,defers:=w.heap.size}
     let wB:World:={wA with heap:=wA.heap.push (.loop lo)}
     have sA:Step E base B μ h w μ h wA:=Step.WL H (Cs.mk' w _);have Z7:wA.heap.size=w.heap.size+1:=by simp[wA]
     have sB:=Step.alloc (o:=.loop .ready none f ps.toList iL body) sA.rel (Cs.mk' wA (.loop lo)) 0 (fun _ _ _ _ hh=>by cases hh) (by
      have:=iM.loop (μ:=kl μ h.size ⟨wA.heap.size,0,0⟩) (h:=h.push (.loop .ready none f ps.toList iL body)) (base:=base) (b:=h.size) (m:=⟨wA.heap.size,0,0⟩) (st:=.ready) (p:=none) (ps:=ps.toList) (iL:=iL) (body:=body) (fn:=fn) (d:=w.heap.size) (hf.mono (gh H.fresh));simpa using this)
     let mk:Deferred:={target:=.collected w.heap.size,args:= #[]}
     have VP:tu W0 μ wA mk w.heap.size:=⟨rfl,by simp[wA],fun b m hb he=>by have:=H.lt hb;omega,hW⟩;have Pp:w.heap.size∉rs:=by
      have:∀{ds:List Deferred} {rs:List Nat},bW W0 μ w ds rs→∀r∈rs,r<w.heap.size:=by
       intro ds rs k
       induction k with
       |nil=>intro r hr;simp at hr
       |cons h1 _ _ ih=>intro r hr;rcases List.mem_cons.1 hr with rfl |hr
                        ·exact(Array.getElem?_eq_some_iff.1 h1.obj).1
                        ·exact ih r hr
      intro qG;have:=this hm _ qG;omega
     have hmarks:bW W0 μ wA (mk::a.defers) (w.heap.size::rs):=.cons VP Pp (hm.step sA)
     let args':Array Value:=qD++ #[.func (.yield wA.heap.size) #[] #[]]++iU
     have v7:=DF (E:=E) _ _ _ _ _ _ hc;obtain⟨WQ,Tk⟩:=Option.isSome_iff_exists.1 v7;obtain⟨g1,g2,g3⟩:=hE.func _ _ Tk;have Z8:WQ.body.isNone=false:=by cases hx:WQ.body<;>simp_all
     have jV:ax (kl μ h.size ⟨wA.heap.size,0,0⟩) (first.toList++[.func (.yield h.size) #[] #[]]++captured.toList) args'.toList:=by
      have hle:μ.le (kl μ h.size ⟨wA.heap.size,0,0⟩):=gh H.fresh;have v1:=(ax.mX t1 t2).mono hle;have v3:=(ax.mX t3 t4).mono hle;have v2:=ax.cons (aq.yield (bO μ h.size ⟨wA.heap.size,0,0⟩)) .nil;simpa[args']using(v1.append v2).append v3
     refine⟨wA.heap.size,[mk],wB,{target:=.fn (.func gid) iU,args:=qD++ #[.func (.yield wA.heap.size) #[] #[]]},wB,gid,args',wB,?_,?_,fun _ _=>hF.fn _,?_,hF.ok n,?_⟩
     ·rw[vp];unfold Instr.enterLoop;simp only[Sem.run_bind,run_newObj,Result.andThen_ok,Sem.run_pure];rfl
     ·have Z9:∀v:Value,a.eval (.const v)=v:=fun _=>rfl;simp[resolve,hq,Deferred.ofValue,Sem.run_pure,Z9]
     ·simp only[invoke,callFunc,Sem.run_bind,run_program,Result.andThen_ok,g1,g3,Z8,Bool.false_eq_true,if_false,Sem.run_pure];rfl
     ·refine(rR _ _ wB gid _ args' _ out hc jV sB.rel F (n - 1) hF).mono ?_;rintro e w3 ⟨rv,v',h2,u7,q0,rfl,k1,s3⟩;have KN:u7 h.size=some ⟨wA.heap.size,0,0⟩:=s3.le _ _ (bO _ _ _);simp only at q0;split at q0
      ·rename_i st p f0 KJ u5 nR hl;simp only[aj]at q0;obtain⟨ct,q0⟩:=q0;obtain⟨Pr,d1,d2,d3,s4⟩:=mh s3.rel KN br hl .exhausted p;have Tl:Step E base B u7 h2 w3 u7 (h2.put h.size (.loop .exhausted p f0 KJ u5 nR)) {w3 with heap:=w3.heap.setIfInBounds wA.heap.size (.loop {Pr with state:=.exhausted})}:=by
        rw[←d3]at s4 ⊢;exact s4
       have nf:=((sA.trans sB).trans s3).trans Tl;have WR:bW W0 u7 {w3 with heap:=w3.heap.setIfInBounds wA.heap.size (.loop {Pr with state:=.exhausted})} (mk::a.defers) (w.heap.size::rs):=((hmarks.step sB).step s3).step Tl;refine⟨p,{w3 with heap:=w3.heap.setIfInBounds wA.heap.size (.loop {Pr with state:=.exhausted})},?_,?_⟩
       ·unfold Instr.endLoop;simp only[Sem.run_bind,run_getLoop (P:=P) d1,Result.andThen_ok];rw[if_neg (by rw[d2];intro hh;rw[bne_iff_ne]at ct;exact ct (eq_of_beq hh))];simp only[Sem.run_bind,cd (P:=P) d1 (fun _ _ _=>by simp),Result.andThen_ok,Sem.run_pure,d3]
       ·cases p with
        |none=>exact hQ _ f _ u7 _ _ _ q0 (hf.mono nf.le) WR nf
        |some cj=>
         exact hk cj f _ K out q0 u7 {a with defers:=mk::a.defers} _ W0 _ (hf.mono nf.le) Tl.rel WR (Nat.le_trans hW nf.grow.size) F n Q hF (.inl vp) fun ex f5 h5 μ5 a5 w5 rs5 p0 p1 p2 s5=>hQ ex f5 h5 μ5 a5 w5 rs5 p0 p1 p2 (nf.trans s5)
      ·cases q0
   ·cases hr
  |scope b=>simp only[aH]at hr;cases hr
  |label l=>simp only[aH]at hr;cases hr
  |goto l=>simp only[aH]at hr;cases hr
  |refuse s=>simp only[aH]at hr;cases hr
theorem sw (hE:bw P E) (hO:jy P E base B) (hm:P.follows .mixedOrders=true) (n:Nat):vF P E base B (HX E base n):=
 HY hE hO (P5 hE hO (Hi hE hm) n).1
end
def DG (base:Nat):KV:=fun v h'=>match v with
 | .slice (some ⟨b,o,some z⟩) len _=>(ae h' b o (len*z)).bind fun cs=>bC (Nat.ble base b&&Nat.blt 0 len&&cs.all scalar) (some (.bool false::goInt len::goInt z::cs))
 |v=>bC (ay v) (some [.bool true,v])
def xy (h:ab):Out→Option (Value×ab)
 |[.bool true,v]=>bC (ay v) (some (v,h))
 | .bool false:: .int _ (.ofNat len):: .int _ (.ofNat z)::cs=>some (.slice (some ⟨h.size,0,some z⟩) len (len+1),h.push (.cells cs h.size (h.size+1) 0))
 |_=>none
noncomputable def DH (E:Env) (n:Nat):fD:=fun g args h=>(HX E h.size n g args h (DG h.size)).bind (xy h)
theorem bf.ext {E:Env} {base B:Nat} {μ:bn} {h:ab} {w w':World} (H:bf E base B μ h w) (hs:w.heap.size≤w'.heap.size) (hk:∀r,r<w.heap.size→w'.heap[r]? =w.heap[r]?):bf E base B μ h w':=
 ⟨H.gg,H.high,fun b m hb=>by
  obtain⟨p,p',k1,k2,k3⟩:=H.obj b m hb;exact⟨p,p',k1,by rw[hk _ (H.lt hb)];exact k2,k3⟩,H.own,H.alias,H.dA,H.dv,Nat.le_trans H.low hs,H.l8,H.wf,H.root⟩
theorem bf.BJ {E E0:Env} {base B:Nat} {μ:bn} {h:ab} {w:World} (H:bf E base B μ h w) (hg:∀g,E0.dv g=true→E.dv g=true):bf E0 h.size w.heap.size μ h w:=
 ⟨H.gg,H.high,fun b m hb=>by
  obtain⟨p,p',k1,k2,k3⟩:=H.obj b m hb;have hd:=H.gg b m hb;refine⟨p,p',k1,k2,?_⟩;cases k3 with
  |cells hn hl hf hc=>exact .cells hn hl (fun h=>by omega) hc
  |map hs=>exact .map hs
  |iQ hs=>exact .iQ hs
  |lK hs=>exact .lK hs
  |cy hk hs=>exact .cy hk hs
  |loop hf=>exact .loop hf
  |gO hp hs hc hn=>exact .gO hp hs hc hn,fun b m hb Ci=>by have:=H.gg b m hb;omega,fun b1 b2 m1 m2 h1 h2 _ _ Ci=>by have:=H.gg b1 m1 h1;have:=H.gg b2 m2 h2;omega,H.dA,fun g Tp=>H.dv g (hg g Tp),Nat.le_refl _,Nat.le_refl _,H.wf,H.root⟩
section
variable {P:Program} {E E0:Env} {base B:Nat}
theorem qV {μ:bn} {h hX:ab} {w:World} (H:bf E base B μ h w) (_:hX.size=h.size) {out:Out} {v:Value} {h':ab} (nD:xy h out=some (v,h')) {u u':Value} {h1:ab} {fK:bn} {w':World}
 (hK:DG h.size u h1=some out) (hv:aq fK u u') (S:Step E0 h.size w.heap.size μ hX w fK h1 w'):m7 E base B μ h w v h' (.returned u') w':=by
 have hold:∀r,r<w.heap.size→w'.heap[r]? =w.heap[r]? :=fun r ku=>S.grow.bk r ku fun b m hb _=>H.gg b m hb;have Hx:=H.ext S.grow.size hold;have gr:Grow base μ w w':=⟨S.grow.tape,S.grow.os,S.grow.output,S.grow.size,fun r ku _=>hold r ku⟩;have plain:∀v:Value,ay v=true→xy h [.bool true,v]=some (v,h):=fun v hp=>by simp[xy,bC,hp]
 unfold DG at hK;split at hK
 ·rename_i b o z len cap;simp only[Option.bind_eq_some_iff,aj,Bool.and_eq_true,aG,aR,Option.some.injEq]at hK;obtain⟨cs,fW,⟨⟨Ci,hlen⟩,hsc⟩,rfl⟩:=hK;simp only[xy,goInt,Option.some.injEq,Prod.mk.injEq]at nD;obtain⟨rfl,rfl⟩:=nD;cases hv with
  |lit hh=>simp[ay]at hh
  |cS hb=>omega
  |slice hb q1 q2 q3 q4=>
   rename_i cap' m;obtain⟨o1,o2,k1,k2,k3⟩:=S.rel.obj b m hb;obtain⟨rc1,rc2⟩:=S.rel.ae hb fW;have FW:w.heap.size≤m.r:=by
    have hn:μ b=none:=by
     cases hx:μ b with
     |none=>rfl
     |some mx=>have:=H.gg b mx hx;omega
    rcases(S.new b m hn hb).2.2 with h5|⟨b0,m0,r1,r2,_⟩
    ·exact h5
    ·have:=H.gg b0 m0 r2;omega
   let m2:MT:=⟨m.r,m.s+o,m.n⟩
   have Hp:=Hx.Ly (o:=.cells cs h.size (h.size+1) 0) (fun _ _ _ _ hh=>by cases hh;rfl);have eH:(h.push (.cells cs h.size (h.size+1) 0)).get h.size=some (.cells cs h.size (h.size+1) 0):=by rw[ab.ao,if_pos rfl]
   obtain⟨c0,e0,Uj,IX,Tb,yO,sj⟩:∃c e fr,w'.heap[m.r]? =some (.cells c e fr)∧c.size=m.n∧oA fr m.n∧(∀(i:Nat) v,cs[i]? =some v→∃v',c[m.s+o+i]? =some v'∧aq fK v v'):=by
    have FX:=fW;unfold M.ae at FX;simp only[Option.bind_eq_some_iff]at FX;obtain⟨HM,G0,_⟩:=FX;obtain⟨c,e,fr,t1,t2,t3,t4,t5⟩:=S.rel.read hb G0;refine⟨c,e,fr,t1,t2,t4 Ci,fun i v hv=>?_⟩;obtain⟨v',s1,s2⟩:=rc2 i v hv;refine⟨v',?_,s2⟩;simpa[World.cell?,t1]using s1
   have hle:m.s+o+cs.length≤m.n:=by
    rw[rc1];have:len*z≤cap'*z:=Nat.mul_le_mul_right z q2;omega
   have Sf:∀(i:Nat) v,cs[i]? =some v→scalar v=true:=fun i v hv=>List.all_eq_true.1 hsc v (List.mem_of_getElem? hv);have ho:iM (kl μ h.size m2) (h.push (.cells cs h.size (h.size+1) 0)) base h.size m2 (.cells cs h.size (h.size+1) 0) (.cells c0 e0 Uj):=by
    refine .cells Tb hle (fun _=>yO) fun _ i v hv=>?_;obtain⟨v',s1,s2⟩:=sj i v hv;have:=s2.ar (Sf i v hv);subst this;exact⟨v',s1,.px _ (Sf i v' hv)⟩
   have Ht:=Hp.Hf (b:=h.size) (m:=m2) (by simp[ab.size_push]) eH H.fresh H.l8 (by have:=H.low;show B≤m.r;omega) IX
    (fun d md hd he=>by have:=H.lt hd;simp only[m2]at he;omega) (fun _ _ _ _ hh=>by cases hh;exact⟨rfl,om⟩) (fun _ _ hh=>by simp at hh) ho
   refine⟨_,kl μ h.size m2,rfl,?_,Ht,gr,gh H.fresh,fun d md h0 hd=>?_,fun d hd _=>by rw[ab.ao,if_neg om],by simp[ab.size_push]⟩
   ·have:=aq.slice (μ:=kl μ h.size m2) (b:=h.size) (o:=0) (z:=z) (len:=len) (cap:=len+1) (cap':=cap') (m:=m2) (bO _ _ _) om q2 (fun h=>by omega) (by simpa[m2]using q4);simpa[m2]using this
   ·by_cases ed:d=h.size
    ·subst ed;rw[bO]at hd;cases hd;exact⟨Nat.le_refl _,H.l8,.inl FW⟩
    ·rw[oB _ _ ed,h0]at hd;cases hd
 ·simp only[aj,Option.some.injEq]at hK;obtain⟨hp,rfl⟩:=hK;rw[plain _ hp]at nD;simp only[Option.some.injEq,Prod.mk.injEq]at nD;obtain⟨rfl,rfl⟩:=nD;have:u'=u:=by cases u<;>simp[ay]at hp<;>cases hv<;>first|rfl |simp_all
  subst this;exact⟨u',μ,rfl,.lit hp,Hx,gr,μ.le_refl,fun b m h0 h1=>(by rw[h0]at h1;cases h1),fun _ _ _=>rfl,Nat.le_refl _⟩
theorem MH (X0:bw P E0) (hO:∀base B,jy P E0 base B) (hm:P.follows .mixedOrders=true) (hg:∀g,E0.dv g=true→E.dv g=true) (k:Nat):jQ P E base B (DH E0 k):=by
 intro μ h w g args args' v h' hc hr H F n hF;unfold DH at hc;simp only[Option.bind_eq_some_iff]at hc;obtain⟨out,gl,nD⟩:=hc;have H2:=H.BJ hg;refine(sw X0 (hO _ _) hm k μ h w g args args' _ out gl hr H2 F n hF).mono ?_;rintro e w' ⟨u,u',h1,fK,hK,rfl,hv,S⟩;exact qV H rfl nD hK hv S
end
noncomputable def acN (P:Program) (fs:List Nat) (n:Nat):FuncId→List Value→ab→Option (Value×ab):=fun g args h=>
 match fs.contains g with
 |true=>DH (iS P lh) n g args h
 |false=>none
def P6 (x:Int):List Int→List Int
 |[]=>[x]
 |y::l=>bif Int.blt' x y then x::y::l else y::P6 x l
where Int.blt' (x y:Int):Bool:=decide (x<y)
def uS:List Int→List Int
 |[]=>[]
 |x::l=>P6 x (uS l)
theorem zW (x:Int):∀l,(P6 x l).Perm (x::l)
 |[]=>.refl _
 |y::l=>by
  unfold P6;rw[bZ];split
  ·exact .refl _
  ·exact((zW x l).cons y).trans (.swap x y l)
theorem xz:∀l,(uS l).Perm l
 |[]=>.refl _
 |x::l=>(zW x _).trans ((xz l).cons x)
def uT:List Value→Option (List Int)
 |[]=>some []
 | .int .i64 x::l=>(uT l).bind fun r=>some (x::r)
 |_=>none
theorem xA:∀{l:List Value} {r:List Int},uT l=some r→l=r.map (.int .i64)
 |[],r,h=>by simp[uT]at h;subst h;rfl
 | .int .i64 x::l,r,h=>by
  simp only[uT,Option.bind_eq_some_iff,Option.some.injEq]at h;obtain⟨r',h1,rfl⟩:=h;rw[xA h1];rfl
def X1 (base:Nat):KV:=fun v h'=>match v with
 | .slice (some ⟨b,o,some 1⟩) len _=>(ae h' b o len).bind fun cs=>(uT cs).bind fun xs=>bC (Nat.ble base b&&Nat.blt 0 len) (some (.bool false::goInt len::(uS xs).map (.int .i64)))
 |v=>bC (ay v) (some [.bool true,v])
def P7 (h:ab):Out→Option (Value×ab)
 |[.bool true,v]=>bC (ay v) (some (v,h))
 | .bool false:: .int _ (.ofNat len)::cs=>(uT cs).bind fun xs=>some (.slice (some ⟨h.size,0,some 1⟩) len (len+1),h.push (.gO xs))
 |_=>none
noncomputable def BK (E:Env) (n:Nat):fD:=fun g args h=>(HX E h.size n g args h (X1 h.size)).bind (P7 h)
theorem zX:∀l:List Int,uT (l.map (.int .i64))=some l
 |[]=>rfl
 |x::l=>by simp[uT,zX l]
section
variable {P:Program} {E E0:Env} {base B:Nat}
theorem Jz (X0:bw P E0) (hO:∀base B,jy P E0 base B) (hm:P.follows .mixedOrders=true) (hg:∀g,E0.dv g=true→E.dv g=true) (k:Nat):jQ P E base B (BK E0 k):=by
 intro μ h w g args args' v h' hc hr H F n hF;unfold BK at hc;simp only[Option.bind_eq_some_iff]at hc;obtain⟨out,gl,nD⟩:=hc;have H2:=H.BJ hg;refine(sw X0 (hO _ _) hm k μ h w g args args' _ out gl hr H2 F n hF).mono ?_;rintro e w' ⟨u,u',h1,fK,hK,rfl,hv,S⟩;have hold:∀r,r<w.heap.size→w'.heap[r]? =w.heap[r]? :=fun r ku=>S.grow.bk r ku fun b m hb _=>H.gg b m hb;have Hx:=H.ext S.grow.size hold;have gr:Grow base μ w w':=⟨S.grow.tape,S.grow.os,S.grow.output,S.grow.size,fun r ku _=>hold r ku⟩;have plain:∀v:Value,ay v=true→P7 h [.bool true,v]=some (v,h):=fun v hp=>by simp[P7,bC,hp]
 unfold X1 at hK;split at hK
 ·rename_i b o len cap;simp only[Option.bind_eq_some_iff,aj,Bool.and_eq_true,aG,aR,Option.some.injEq]at hK;obtain⟨cs,fW,xs,KL,⟨Ci,hlen⟩,rfl⟩:=hK;have qa:=xA KL;simp only[P7,goInt,zX,Option.bind_some,Option.some.injEq,Prod.mk.injEq]at nD;obtain⟨rfl,rfl⟩:=nD;cases hv with
  |lit hh=>simp[ay]at hh
  |cS hb=>omega
  |slice hb q1 q2 q3 q4=>
   rename_i cap' m;obtain⟨rc1,rc2⟩:=S.rel.ae hb fW;have FW:w.heap.size≤m.r:=by
    have hn:μ b=none:=by
     cases hx:μ b with
     |none=>rfl
     |some mx=>have:=H.gg b mx hx;omega
    rcases(S.new b m hn hb).2.2 with h5|⟨b0,m0,r1,r2,_⟩
    ·exact h5
    ·have:=H.gg b0 m0 r2;omega
   let m2:MT:=⟨m.r,m.s+o,m.n⟩
   have Hp:=Hx.Ly (o:=.gO (uS xs)) (fun _ _ _ _ hh=>by cases hh);have eH:(h.push (.gO (uS xs))).get h.size=some (.gO (uS xs)):=by rw[ab.ao,if_pos rfl]
   obtain⟨c0,e0,Uj,IX,Tb,sj⟩:∃c e fr,w'.heap[m.r]? =some (.cells c e fr)∧c.size=m.n∧(∀(i:Nat) v,cs[i]? =some v→∃v',c[m.s+o+i]? =some v'∧aq fK v v'):=by
    have FX:=fW;unfold M.ae at FX;simp only[Option.bind_eq_some_iff]at FX;obtain⟨HM,G0,_⟩:=FX;obtain⟨c,e,fr,t1,t2,t3,t4,t5⟩:=S.rel.read hb G0;refine⟨c,e,fr,t1,t2,fun i v hv=>?_⟩;obtain⟨v',s1,s2⟩:=rc2 i v hv;refine⟨v',?_,s2⟩;simpa[World.cell?,t1]using s1
   have hxl:xs.length=len:=by rw[←rc1,qa];simp
   have ho:iM (kl μ h.size m2) (h.push (.gO (uS xs))) base h.size m2 (.gO (uS xs)) (.cells c0 e0 Uj):=by
    refine .gO (l:=xs) (xz xs).symm (by show m.s+o+xs.length≤m.n;omega) (fun i x hx=>?_) Tb;obtain⟨v',s1,s2⟩:=sj i (.int .i64 x) (by rw[qa];simp[hx]);have:=s2.ar rfl;subst this;exact s1
   have Ht:=Hp.Hf (b:=h.size) (m:=m2) (by simp[ab.size_push]) eH H.fresh H.l8 (by have:=H.low;show B≤m.r;omega) IX
    (fun d md hd he=>by have:=H.lt hd;simp only[m2]at he;omega) (fun _ _ _ _ hh=>by cases hh) (fun _ _ hh=>by cases hh) ho
   refine⟨_,kl μ h.size m2,rfl,?_,Ht,gr,gh H.fresh,fun d md h0 hd=>?_,fun d hd _=>by rw[ab.ao,if_neg om],by simp[ab.size_push]⟩
   ·have:=aq.slice (μ:=kl μ h.size m2) (b:=h.size) (o:=0) (z:=1) (len:=len) (cap:=len+1) (cap':=cap') (m:=m2) (bO _ _ _) om q2 (fun h=>by omega) (by simpa[m2]using q4);simpa[m2]using this
   ·by_cases ed:d=h.size
    ·subst ed;rw[bO]at hd;cases hd;exact⟨Nat.le_refl _,H.l8,.inl FW⟩
    ·rw[oB _ _ ed,h0]at hd;cases hd
 ·simp only[aj,Option.some.injEq]at hK;obtain⟨hp,rfl⟩:=hK;rw[plain _ hp]at nD;simp only[Option.some.injEq,Prod.mk.injEq]at nD;obtain⟨rfl,rfl⟩:=nD;have:u'=u:=by cases u<;>simp[ay]at hp<;>cases hv<;>first|rfl |simp_all
  subst this;exact⟨u',μ,rfl,.lit hp,Hx,gr,μ.le_refl,fun b m h0 h1=>(by rw[h0]at h1;cases h1),fun _ _ _=>rfl,Nat.le_refl _⟩
end
def tS (x:Int):List Int→List (List Int)
 |[]=>[[x]]
 |y::l=>(x::y::l)::(tS x l).map (y::·)
def perms:List Int→List (List Int)
 |[]=>[[]]
 |x::l=>(perms l).flatMap (tS x)
theorem xB (x:Int):∀a b:List Int,a++x::b∈tS x (a++b)
 |[],[]=>by simp[tS]
 |[],y::b=>by simp[tS]
 |y::a,b=>by
  simp only[List.cons_append,tS,List.mem_cons,List.mem_map];exact .inr ⟨_,xB x a b,rfl⟩
theorem zY:∀{cs l:List Int},l.Perm cs→l∈perms cs
 |[],l,h=>by simp[perms,h.eq_nil]
 |x::cs,l,h=>by
  have hx:x∈l:=h.mem_iff.2 List.mem_cons_self;obtain⟨a,b,rfl⟩:=List.append_of_mem hx;have hp:(a++b).Perm cs:=(List.perm_middle.symm.trans h).cons_inv;simp only[perms,List.mem_flatMap];exact⟨a++b,zY hp,xB x a b⟩
def sx (h:ab):List Value→Option (Nat×List Int)
 |[]=>none
 | .slice (some ⟨b,_,some _⟩) _ cap::l=>(match Nat.beq cap 0,h.get b with
  |false,some (.gO cs)=>some (b,cs)
  |_,_=>sx h l)
 |_::l=>sx h l
def FY (h:ab) (b:Nat):Bool:=(List.range h.size).all fun c=>match h.get c with
 |some (.cells _ f _ _)=> !Nat.beq f b
 |_=>true
noncomputable def BL (E:Env) (n:Nat):fD:=fun g args h=>(sx h args).bind fun r=>bC (Nat.blt r.1 h.size&&FY h r.1)<|
 (meet ((perms r.2).map fun l=>HX E h.size n g args (h.put r.1 (.cells (l.map (.int .i64)) r.1 h.size 0)) (DG h.size))).bind (xy h)
theorem JA {h:ab} {args:List Value} {r:Nat×List Int} (hr:sx h args=some r):h.get r.1=some (.gO r.2):=by
 induction args with
 |nil=>simp[sx]at hr
 |cons v l ih=>
  unfold sx at hr;split at hr
  ·cases hr
  ·rename_i b o z len cap l' heq;simp only[List.cons.injEq]at heq;obtain⟨_,rfl⟩:=heq;split at hr
   ·rename_i cs hg;simp only[Option.some.injEq]at hr;subst hr;exact hg
   ·exact ih hr
  ·rename_i v' l' _ heq;simp only[List.cons.injEq]at heq;obtain⟨_,rfl⟩:=heq;exact ih hr
section
variable {P:Program} {E E0:Env} {base B:Nat}
theorem bf.X2 {μ:bn} {h:ab} {w:World} (H:bf E base B μ h w) (abd:∀b,b<h.size→b<base) {b:Nat} {m:MT} (hb:μ b=some m) {cs:List Int} (hg:h.get b=some (.gO cs)) (hn:FY h b=true):
 ∃l:List Int,l.Perm cs∧bf E base B μ (h.put b (.cells (l.map (.int .i64)) b h.size 0)) w:=by
 obtain⟨p,p',k1,k2,k3⟩:=H.obj b m hb;rw[hg]at k1;cases k1;have Ur:=H.gg b m hb;cases k3 with
 |gO hp hl hc Tb=>
  rename_i c e fr l;refine⟨l,hp,?_⟩;have bP:∀c cs' f t th,h.get c=some (.cells cs' f t th)→f≠b:=by
   intro c cs' f t th tz Sg;have qa:c<h.size:=by
    rcases Nat.lt_or_ge c h.size with h1|h1
    ·exact h1
    ·rw[H.high c h1]at tz;cases tz
   unfold FY at hn;have:=List.all_eq_true.1 hn c (List.mem_range.2 qa);rw[tz]at this;simp[Sg]at this
  have BM:∀c,c≠b→(h.put b (.cells (l.map (.int .i64)) b h.size 0)).get c=h.get c:=fun c hc=>by rw[ab.bE,if_neg hc]
  have oE:(h.put b (.cells (l.map (.int .i64)) b h.size 0)).get b=some (.cells (l.map (.int .i64)) b h.size 0):=by rw[ab.bE,if_pos rfl]
  have l9:∀c,c≠b→(h.put b (.cells (l.map (.int .i64)) b h.size 0)).dA c=h.dA c:=by
   intro c hc;apply rI;intro r;obtain⟨f,cO,aO⟩:=r;rw[gR,gR];constructor
   ·rintro⟨cs',t0,eX,c0,q1,q2⟩;rw[BM c hc]at q1;have Sg:=bP _ _ _ _ _ q1;rw[BM f Sg]at q2;exact⟨cs',t0,eX,c0,q1,q2⟩
   ·rintro⟨cs',t0,eX,c0,q1,q2⟩;have Sg:=bP _ _ _ _ _ q1;exact⟨cs',t0,eX,c0,by rw[BM c hc];exact q1,by rw[BM f Sg];exact q2⟩
  have Si:h.dA b=none:=by
   cases hf:h.dA b with
   |none=>rfl
   |some r=>obtain⟨cs',t,th,q⟩:=dQ hf;rw[hg]at q;cases q
  have Us:(h.put b (.cells (l.map (.int .i64)) b h.size 0)).dA b=some (b,h.size,0):=bH oE oE;have td:∀c,c≠b→(h.put b (.cells (l.map (.int .i64)) b h.size 0)).cellsOf c=h.cellsOf c:=fun c hc=>by unfold ab.cellsOf;rw[BM c hc]
  have fW:∀c,c≠b→(h.put b (.cells (l.map (.int .i64)) b h.size 0)).rd c=h.rd c:=fun c hc=>by unfold ab.rd;rw[l9 c hc,td c hc]
  have hlen:∀c,c≠b→lenOf (h.put b (.cells (l.map (.int .i64)) b h.size 0)) c=lenOf h c:=fun c hc=>by unfold lenOf;rw[td c hc]
  refine⟨H.gg,fun c hc=>by rw[BM c (by simp only[ab.size_put]at hc;omega)];exact H.high c hc,fun c mc hc=>?_,H.own,fun b1 b2 m1 m2 h1 h2 hr bj Ci=>?_,fun c mc r hc hr=>?_,H.dv,H.low,H.l8,fun c cs' f t th tz=>?_,fun c mc cs' th hc tz=>?_⟩
  ·by_cases ec:c=b
   ·subst ec;rw[hb]at hc;cases hc;refine⟨_,_,oE,k2,.cells Tb (by simpa using hl) (fun h9=>?_) fun _ i v hv=>?_⟩
    ·have:=abd c Ur;omega
    ·rw[List.getElem?_map,Option.map_eq_some_iff]at hv;obtain⟨x,hx,rfl⟩:=hv;exact⟨_,hc i x hx,.int μ _ _⟩
   ·obtain⟨q,q',j1,j2,j3⟩:=H.obj c mc hc;exact⟨q,q',by rw[BM c ec];exact j1,j2,j3.mono μ.le_refl (by rw[fW c ec];exact id)⟩
  ·obtain⟨r,q1,q2,q3⟩:=H.alias b1 b2 m1 m2 h1 h2 hr bj Ci;have e1:b1≠b:=fun e=>by subst e;rw[Si]at q1;cases q1
   have e2:b2≠b:=fun e=>by subst e;rw[Si]at q2;cases q2
   exact⟨r,by rw[l9 b1 e1];exact q1,by rw[l9 b2 e2];exact q2,by rw[hlen b1 e1,hlen b2 e2];exact q3⟩
  ·by_cases ec:c=b
   ·subst ec;rw[Us]at hr;cases hr;exact⟨Nat.le_of_lt Ur,Nat.le_refl _,m,hb⟩
   ·rw[l9 c ec]at hr;exact H.dA c mc r hc hr
  ·by_cases ec:c=b
   ·subst ec;rw[oE]at tz;cases tz;exact Nat.le_refl _
   ·rw[BM c ec]at tz;exact H.wf _ _ _ _ _ tz
  ·by_cases ec:c=b
   ·subst ec;rw[oE]at tz;simp only[Option.some.injEq,e8.cells.injEq]at tz;omega
   ·rw[BM c ec]at tz;exact H.root _ _ _ _ hc tz
theorem JB {μ:bn} {h:ab} {args args':List Value} (hr:ax μ args args') {b:Nat} {cs:List Int} (hb:sx h args=some (b,cs)):∃m,μ b=some m:=by
 induction hr with
 |nil=>simp[sx]at hb
 |cons hv _ ih=>
  unfold sx at hb;split at hb
  ·cases hb
  ·rename_i b0 o z len cap l' heq;simp only[List.cons.injEq]at heq;obtain⟨rfl,rfl⟩:=heq;split at hb
   ·rename_i cs' hz hg;simp only[Option.some.injEq,Prod.mk.injEq]at hb;obtain⟨rfl,rfl⟩:=hb;cases hv with
    |lit hh=>simp[ay]at hh
    |slice h1=>exact⟨_,h1⟩
    |cS h1=>exact h1 (by rintro rfl;simp at hz)
   ·exact ih hb
  ·rename_i v' l' _ heq;simp only[List.cons.injEq]at heq;obtain⟨_,rfl⟩:=heq;exact ih hb
theorem JC (X0:bw P E0) (hO:∀base B,jy P E0 base B) (hm:P.follows .mixedOrders=true) (hg:∀g,E0.dv g=true→E.dv g=true) (k:Nat):jQ P E base B (BL E0 k):=by
 intro μ h w g args args' v h' hc hr H F n hF;unfold BL at hc;simp only[Option.bind_eq_some_iff,aj,Bool.and_eq_true,aR]at hc;obtain⟨⟨b,cs⟩,X3,⟨bF,Pp⟩,out,X4,nD⟩:=hc;obtain⟨m,hb⟩:=JB hr X3;have eH:=JA X3;have H2:=H.BJ hg;obtain⟨l,hl,H3⟩:=H2.X2 (fun _ h=>h) hb eH Pp;have gl:=zU X4 _ (List.mem_map_of_mem (zY hl));refine(sw X0 (hO _ _) hm k μ _ w g args args' _ out gl hr H3 F n hF).mono ?_;rintro e w' ⟨u,u',h1,fK,hK,rfl,hv,S⟩;exact qV (hX:=h.put b (.cells (l.map (.int .i64)) b h.size 0)) H rfl nD hK hv S
end
noncomputable def abe (P:Program) (fs bs ps:List Nat) (n:Nat):FuncId→List Value→ab→Option (Value×ab):=fun g args h=>
 match fs.contains g with
 |true=>DH (iS P lh) n g args h
 |false=>match bs.contains g with
  |true=>BK (iS P lh) n g args h
  |false=>match ps.contains g with
   |true=>BL (iS P lh) n g args h
   |false=>none
end Go.M
