/-
  Part 11 of the library that the proof leans on.
-/
import Derived.Test.YteoljjhhdgplnaaGreatDoorL4
namespace Go.M
open Go
abbrev Out:=List Value
abbrev KV:=Value→ah→Option Out
abbrev tw:=FuncId→List Value→ah→KV→Option Out
abbrev pt:=Nat→List Value→ah→KV→Option Out
abbrev KC:=Ex→AF→ah→Option Out
def meet:List (Option Out)→Option Out
 |[]=>none
 |x::xs=>x.bind fun o=>bL (xs.all fun y=>match y with|some o'=>gZ o o'|none=>false) (some o)
def AX (h:ah) (r base:Nat) (K:KV):Option Out:=
 bL (Nat.ble base r)<|
 match h.get r with
 |some (.cV none _ _ _)=>K (.tuple #[.bool false]) h
 |some (.cV (some m) since seen last)=>(match h.get m with
  |some (.map es clock)=>
   bL (!(!seen.isEmpty&& !es.isEmpty&&es.all (fun e=>Nat.ble last e.born)))<|
   (match es.filter (fun e=> !seen.contains e.born)with
   |[]=>K (.tuple #[.bool false]) h
   |e::l=>meet ((e::l).map fun e=>bL (Nat.blt e.born since) (K (.tuple #[.bool true,e.key,e.val]) (h.put r (.cV (some m) since (seen++[e.born]) clock)))))
  |_=>none)
 |_=>none
def Dk (E:Env) (base:Nat) (cK:tw) (rK:pt) (o:Oper) (f:AF) (h:ah) (K:KV):Option Out:=
 match o.op with
 | .next it false=>(match(ev E f it).bind oT with
  |some r=>AX h r base K
  |none=>none)
 |_=>
  match aO E f o with
  |some v=>K v h
  |none=>match bP E f o with
   |some q=>(match q.run h with|some v=>K v h|none=>none)
   |none=>match bt E f o with
    |some (m,hd)=>K (hd.val h.size) (h.push (m.obj h.size))
    |none=>match dk E base f o h with
     |some (.val v,h')=>K v h'
     |some (.enter g args,h')=>cK g args h' K
     |some (.round l args,h')=>rK l args h' K
     |none=>none
def p7 (E:Env) (base:Nat) (cK:tw) (rK:pt) (ops:List Oper):List Oper→AF→ah→(AF→ah→Option Out)→Option Out
 |[],f,h,K=>K f h
 |o::rest,f,h,K=>
  match wanted ops o f with
  |true=>Dk E base cK rK o f h fun v h'=>p7 E base cK rK ops rest (f.put o.dst v) h' K
  |false=>p7 E base cK rK ops rest (f.put o.dst undef) h K
abbrev OG:=Code→AF→ah→KC→Option Out
def eP (E:Env) (base:Nat) (run:OG):tw:=fun g args h K=>
 match E.func g with
 |none=>none
 |some fn=>match E.v9 base g args h with
  |some r=>K r.1 r.2
  |none=>match fn.body with
   |none=>none
   |some c=>bL (Nat.ble args.length fn.ntmps)<|run c (AF.enter args fn.ntmps) h fun ex f h'=>
    match ex with
    | .exit _=>none
    |_=>match cY E h' f fn.results.toList with
     |some vs=>K (ct vs) h'
     |none=>none
def j9 (base:Nat) (run:OG):pt:=fun l args h K=>
 bL (Nat.ble base l)<|
 match h.get l with
 |some (.loop .ready _ f ps gS body)=>bL (Nat.beq ps.length args.length&&aZ gS&&aZ body)<|
  run gS (AF.jc (ps.zip args) f) h fun ex f1 h1=>
   (match ex with
   | .normal=>(match h1.get l with
    |some (.loop .ready p1 f0 g6 sV kF)=>
     run body f1 (h1.put l (.loop .busy p1 f0 g6 sV kF)) fun YR _ h2=>
      (match h2.get l with
      |some (.loop _ _ f0 g6 sV kF)=>
       (match YR with
       | .normal=>K (.bool true) (h2.put l (.loop .ready none f0 g6 sV kF))
       | .ret=>K (.bool false) (h2.put l (.loop .done (some .ret) f0 g6 sV kF))
       | .exit id=>K (.bool false) (h2.put l (.loop .done (some (.exit id)) f0 g6 sV kF)))
      |_=>none)
    |_=>none)
   |_=>none)
 |_=>none
noncomputable def aP (E:Env) (base:Nat):Nat→OG
 |0,_,_,_,_=>none
 |n+1,c,f,h,K=>
  match c with
  | .skip=>K .normal f h
  | .region _ ops draw=>(match draw with
   |false=>p7 E base (eP E base (aP E base n)) (j9 base (aP E base n)) ops.toList ops.toList f h fun f' h'=>K .normal f' h'
   |true=>(match kO E base (aN E base n) ops true f h with
    |some (ex,f',h')=>K ex f' h'
    |none=>none))
  | .seq a b=>aP E base n a f h fun ex f' h'=>(match ex with
   | .normal=>aP E base n b f' h' K
   |ex=>K ex f' h')
  | .cond c t e=>(match(ev E f c).bind Gs with
   |some true=>aP E base n t f h K
   |some false=>aP E base n e f h K
   |none=>none)
  | .block id b=>aP E base n b f h fun ex f' h'=>(match ex with
   | .exit nU=>bif Nat.beq nU id then K .normal f' h' else K (.exit nU) f' h'
   |ex=>K ex f' h')
  | .loop b=>aP E base n b f h fun ex f' h'=>(match ex with
   | .normal=>aP E base n (.loop b) f' h' K
   |ex=>K ex f' h')
  | .exit id=>K (.exit id) f h
  | .ret=>K .ret f h
  | .rangeFunc g ps gS body=>(match ev E f g with
   |some (.func (.func g) first captured)=>bL (Nat.ble base h.size)<|
    eP E base (aP E base n) g (first.toList++[.func (.yield h.size) #[] #[]]++captured.toList) (h.push (.loop .ready none f ps.toList gS body)) fun _ h1=>
     (match h1.get h.size with
     |some (.loop st p f0 Qg yI pO)=>bL (st != .busy) (match p with
      |none=>K .normal f (h1.put h.size (.loop .exhausted p f0 Qg yI pO))
      |some c=>aP E base n c f (h1.put h.size (.loop .exhausted p f0 Qg yI pO)) K)
     |_=>none)
   |_=>none)
  |_=>none
noncomputable def MQ (E:Env) (base n:Nat):tw:=eP E base (aP E base n)
section
variable {P:Program} {E:Env} {μ:bD} {f:AF} {a:Act} {base B:Nat} {h:ah} {w:World}
theorem cZ.get' {l l':List MapEntry} (hs:cZ μ l l'):∀(i:Nat) (e':MapEntry),l'[i]? =some e'→∃e,l[i]? =some e∧aq μ e.key e'.key∧aq μ e.val e'.val∧e.born=e'.born:=by
 induction hs with
 |nil=>intro i e' h;simp at h
 |cons q1 q2 q3 _ ih=>
  intro i e' h;cases i with
  |zero=>simp at h;subst h;exact⟨_,rfl,q1,q2,q3⟩
  |succ i=>simpa using ih i e' (by simpa using h)
theorem Cj (n:Nat) (hn:0<n) (w:World):∃i d,i<n∧(choose (.mapNext n)).run P w= .ok i {w with drawn:=d}:=by
 rw[run_choose];by_cases hf:(Question.mapNext n).forced=true
 ·rw[if_pos hf];exact⟨0,w.drawn,hn,rfl⟩
 ·rw[if_neg hf];exact⟨_,w.drawn+1,Nat.mod_lt _ hn,rfl⟩
theorem Dl {l:List (Option Out)} {o:Out} (h:meet l=some o):∀x∈l,x=some o:=by
 cases l with
 |nil=>intro x hx;simp at hx
 |cons y ys=>
  simp only[meet,Option.bind_eq_some_iff,aj,Option.some.injEq,List.all_eq_true]at h;obtain⟨o',rfl,h2,rfl⟩:=h;intro x hx;rcases List.mem_cons.1 hx with rfl |hx
  ·rfl
  ·have:=h2 x hx;cases x with
   |none=>simp at this
   |some o2=>simp only at this;rw[r8 this]
theorem OH (H:bB E base B μ h w) {r:Nat} {m:MT} {K:KV} {out:Out} (ty:TypeId) (hk:AX h r base K=some out) (hb:μ r=some m):
 ∃v h' v' w',K v h'=some out∧(Instr.next (.pointer (some ⟨m.r,0,none⟩)) false ty).run P w= .ok v' w'∧aq μ v v'∧Step E base B μ h w μ h' w':=by
 unfold AX at hk;simp only[aj,aL]at hk;obtain⟨bG,hk⟩:=hk;obtain⟨o1,o2,k1,k2,k3⟩:=H.obj r m hb;split at hk
 ·rename_i since seen last hg;rw[hg]at k1;cases k1;cases k3 with
  |nh kc=>
   have rZ:=run_getObj_map (P:=P) k2 (fun _ _ _=>by simp);refine⟨_,_,_,w,hk,?_,.dS (by simpa using ax.cons (.bool μ false) .nil),.refl H⟩;unfold Instr.next;simp only[Sem.run_bind,rZ,Result.andThen_ok];rfl
 ·rename_i mm since seen last hg;rw[hg]at k1;cases k1;cases k3 with
  |cV hkm kc=>
   rename_i mk;have rZ:=run_getObj_map (P:=P) k2 (fun _ _ _=>by simp);split at hk
   ·rename_i es clock QU;obtain⟨p1,p2,j1,j2,j3⟩:=H.obj mm mk hkm;rw[QU]at j1;cases j1;cases j3 with
    |map hs=>
     rename_i cb;have JU:=run_getObj_map (P:=P) j2 (fun _ _ _=>by simp);simp only[aj]at hk;obtain⟨kR,hk⟩:=hk;have hlen:=hs.length;have ZF:cb.isEmpty=es.isEmpty:=by
      cases es<;>cases h9:cb.toList<;>rw[h9]at hlen<;>simp at hlen
      ·have:cb= #[]:=by apply Array.ext';simp[h9]
       simp[this]
      ·have:cb.size≠0:=by have:=congrArg List.length h9;simp at this;omega
       simp[Array.isEmpty,this]
     have ni:(cb.all fun e=>decide (e.born≥last))=es.all (fun e=>Nat.ble last e.born):=by
      rw[←Array.all_toList,←hs.GS (fun n=>decide (n≥last))]
      congr 1
      funext e
      rw[Bool.eq_iff_iff,aL];simp
     have GU:(!seen.toArray.isEmpty&& !cb.isEmpty&&cb.all fun e=>decide (e.born≥last))=false:=by
      rw[ZF,ni];have:seen.toArray.isEmpty=seen.isEmpty:=by cases seen<;>simp
      rw[this];simpa only[Bool.not_eq_true']using kR
     have sW:=hs.filter (fun n=> !seen.contains n);have CJ:(cb.filter fun e=> !seen.toArray.contains e.born).toList=cb.toList.filter (fun e=> !seen.contains e.born):=by
      simp
     generalize hL:(cb.filter fun e=> !seen.toArray.contains e.born)=left at CJ;split at hk
     ·rename_i hf;rw[hf]at sW;have y8:left= #[]:=by
       apply Array.ext';rw[CJ];cases zR:cb.toList.filter (fun e=> !seen.contains e.born)with
       |nil=>rfl
       |cons x y=>rw[zR]at sW;cases sW
      refine⟨_,_,_,w,hk,?_,.dS (by simpa using ax.cons (.bool μ false) .nil),.refl H⟩;unfold Instr.next;simp only[Sem.run_bind,rZ,JU,Result.andThen_ok,GU,Bool.false_eq_true,if_false,hL,y8];simp[Question.forced]
     ·rename_i e0 l0 hf;rw[←hf]at hk;rw[←CJ]at sW;have Mf:=Dl hk;have hk:∀e∈es.filter (fun e=> !seen.contains e.born),e.born<since∧K (.tuple #[.bool true,e.key,e.val]) (h.put r (.cV (some mm) since (seen++[e.born]) clock))=some out:=fun e he=>by
       have:=Mf _ (List.mem_map_of_mem he);simp only[aj,bc]at this;exact this
      have fq:0<left.size:=by
       have:=sW.length;rw[hf]at this;simp at this;omega
      have hold:∀x∈left,x.born<since:=by
       intro x hx;obtain⟨i,hi⟩:=List.mem_iff_getElem?.1 (by simpa using hx:x∈left.toList);obtain⟨e,h1,_,_,h4⟩:=sW.get' i x hi;rw[←h4];exact(hk e (List.mem_of_getElem? h1)).1
      have f1:(left.filter fun x=>decide (x.born<since))=left:=by
       apply Array.filter_eq_self.2;intro x hx;simpa using hold x hx
      have f2:(left.filter fun x=>decide (x.born≥since))= #[]:=by
       apply Array.filter_eq_empty_iff.2;intro x hx;have:=hold x hx;simp;omega
      have f3:left.isEmpty=false:=by
       cases hle:left.isEmpty with
       |false=>rfl
       |true=>
        have:left= #[]:=by simpa using hle
        rw[this]at fq;simp at fq
      obtain⟨i,d,hi,Wk⟩:=Cj (P:=P) left.size fq w;have hgi:=Array.getElem?_eq_getElem hi;obtain⟨e,h1,h2,h3,h4⟩:=sW.get' i left[i] (by rw[Array.getElem?_toList];exact hgi);obtain⟨hbe,hKe⟩:=hk e (List.mem_of_getElem? h1);have Hd:=H.congr (w':={w with drawn:=d}) rfl;have Mb:=fun o=>cJ (P:=P) (w:={w with drawn:=d}) (o:=o) k2 (fun _ _ _=>by simp);have st:=Step.put (o:=.cV (some mm) since (seen++[e.born]) clock) Hd hb bG hg rfl rfl (Ej.set {w with drawn:=d} m.r (.mapIter (some mk.r) since (seen.toArray.push left[i].born) clock) (Hd.lt hb)) (by
       have:=jA.cV (μ:=μ) (h:=h.put r (.cV (some mm) since (seen++[e.born]) clock)) (base:=base) (b:=r) (m:=m) (since:=since) (last:=clock) (seen:=seen++[e.born]) hkm kc;rw[h4]at this ⊢;simpa using this)
      refine⟨_,_,_,_,hKe,?_,.dS (by simpa using ax.cons (.bool μ true) (.cons h2 (.cons h3 .nil))),(Step.drawn H d).trans st⟩;unfold Instr.next;simp only[Sem.run_bind,rZ,JU,Result.andThen_ok,GU,Bool.false_eq_true,if_false,hL,f1,f2,f3];have f4:(#[]++(left++ #[]).map some:Array (Option MapEntry))=left.map some:=by simp
      rw[f4];simp only[Array.size_map,Wk,Result.andThen_ok,Array.getElem?_map,hgi,Option.map_some,Sem.run_bind,Mb,Sem.run_pure]
   ·cases hk
 ·cases hk
end
def Wl (E:Env) (base B:Nat) (μ:bD) (h:ah) (w:World) (K:KV) (out:Out):Ending→World→Prop:=
 fun e w'=>∃v v' h' bd,K v h'=some out∧e= .returned v'∧aq bd v v'∧Step E base B μ h w bd h' w'
def zo (P:Program) (E:Env) (base B:Nat) (cK:tw):Prop:=
 ∀(μ:bD) (h:ah) (w:World) (g:FuncId) (args:List Value) (args':Array Value) (K:KV) (out:Out),cK g args h K=some out→ax μ args args'.toList→bB E base B μ h w→
  ∀(F:Fence) (n:Nat),iH F→CallsIn F n P g args' w (Wl E base B μ h w K out)
def AY (P:Program) (E:Env) (base B:Nat) (rK:pt):Prop:=
 ∀(μ:bD) (h:ah) (w:World) (l:Nat) (args:List Value) (K:KV) (out:Out) (m:MT) (f0:AF) (ps:List Tmp) (gS body:Code) (st:LoopState) (p:Option Code) (fn:FuncId) (tmps:Array Value),
  rK l args h K=some out→h.get l=some (.loop st p f0 ps gS body)→μ l=some m→bB E base B μ h w→du μ (AF.jc (ps.zip args) f0) tmps→
  ∀(F:Fence) (n:Nat),iH F→RoundIn F n P m.r fn tmps gS body w (Wl E base B μ h w K out)
def AZ (E:Env) (cK:tw):Prop:=∀g args h K out,cK g args h K=some out→(E.func g).isSome=true
def wV (rK:pt):Prop:=∀l args h K out,rK l args h K=some out→∃st p f0 ps gS body,h.get l=some (.loop st p f0 ps gS body)∧ps.length=args.length
section
variable {P:Program} {E:Env} {μ:bD} {f:AF} {a:Act} {base B:Nat} {h:ah} {w:World} {cK:tw} {rK:pt}
theorem Sl {o:Oper} {K:KV} {out:Out} {k:ah} (h:Dk E base cK rK o f k K=some out):∀c,o.op≠ .defer c:=by
 intro c hc;unfold Dk at h;simp only[aO,bP,bt,dk,hc]at h;cases h
theorem Wm (hE:bK P E) (B0:zo P E base B cK) (Ey:AY P E base B rK) (Ez:AZ E cK) (EA:wV rK) {F:Fence} (hF:iH F) {n:Nat} (hf:du μ f a.tmps) (H:bB E base B μ h w) {o:Oper} {K:KV} {out:Out} (hr:Dk E base cK rK o f h K=some out)
 {next:Act→World→Prop} {Q:Exit→Act→World→Prop} (hn:∀bd v v' h' w',K v h'=some out→aq bd v v'→Step E base B μ h w bd h' w'→next (a.put o.dst v') w'):o.wpIn F n P a w next Q:=by
 have hg:hZ E μ:=H.dN;refine⟨fun _ _=>hF.fn _,?_⟩;rw[Oper.semAt_eq _ _ _ (Sl hr)];unfold Dk at hr;split at hr
 ·rename_i it kr;split at hr
  ·rename_i r hit;simp only[Option.bind_eq_some_iff]at hit;obtain⟨v1,h1,h2⟩:=hit;have e:=qp h2;subst e;obtain⟨m,hb,ex⟩:=(bq hg hf h1).kP;have kc:m.s=0:=by
    obtain⟨o1,o2,k1,k2,k3⟩:=H.obj r m hb;unfold AX at hr;simp only[aj]at hr;have oO:=hr.2;cases k3 with
    |jE hs=>exact hs
    |nh hs=>exact hs
    |cV _ hs=>exact hs
    |_=>rw[k1]at oO;simp at oO
   obtain⟨v,h',v',w',q0,q1,q2,q3⟩:=OH (P:=P) H o.type hr hb;rw[kc]at ex;have he:(execOp a.eval o).run P w= .ok (.value v') w':=by
    unfold execOp;rw[kr];simp only[ex,Nat.add_zero,Sem.run_bind];rw[q1];simp
   rw[he];exact hn μ v v' h' w' q0 q2 q3
  ·cases hr
 ·split at hr
  ·rename_i v hp;obtain⟨v',q1,q2⟩:=rX hE hg hf hp;rw[q2 w];exact hn μ _ v' _ w hr q1 (.refl H)
  ·split at hr
   ·rename_i q hq;split at hr
    ·rename_i v hv;obtain⟨v',q1,q2⟩:=wq hE hf H hq hv;rw[q2];exact hn μ _ v' _ w hr q1 (.refl H)
    ·cases hr
   ·split at hr
    ·rename_i md hd dh;obtain⟨o',k,hv,S⟩:=oX hE hg hf dh;rw[S.run w];have st:=Step.alloc (o:=md.obj h.size) H (GI.mk' w o') k (fun cs f dj aS hh=>by cases md<;>simp[Made.obj]at hh;exact⟨hh.2.1.symm,hh.2.2.1.symm⟩) (S.obj _ _ _ _ _ (g9 H.fresh));exact hn _ _ _ _ _ hr (S.val _ _ _ (bY _ _ _)) st
    ·split at hr
     ·rename_i v h' he;obtain⟨bd,nx,v',w',q1,q2,q3,q4⟩:=zT hE hf H he;rw[q1];rcases q2 with rfl |⟨rfl,rfl⟩
      ·exact hn bd _ v' _ w' hr q3 q4
      ·exact hn bd _ undef _ w' hr q3 q4
     ·rename_i g args h' he;have zU:=Ez _ _ _ _ _ hr;obtain⟨args',e,q1,q2⟩:=tW hE hf H he zU;subst e;rw[q2];refine⟨hF.ok n,(B0 μ h' w g args args' K out hr q1 H F (n - 1) hF).mono ?_⟩;rintro e w' ⟨v,v',h2,bd,k0,rfl,k1,k2⟩;exact hn bd v v' h2 w' k0 k1 k2
     ·rename_i l args h' he;obtain⟨st,p,f0,ps,gS,body,hl,hlen⟩:=EA _ _ _ _ _ hr;have hh:h'=h:=by
       obtain⟨dst,op,type,pos,after,guard⟩:=o;cases op<;>simp only[dk]at he<;>first|cases he|skip
       all_goals simp only[Option.bind_eq_some_iff,Option.some.injEq,Prod.mk.injEq,aj,reduceCtorEq,false_and,and_false,exists_false]at he
       ·obtain⟨_,_,_,_,he⟩:=he;split at he
        ·split at he<;>simp at he
        ·cases he
       ·obtain⟨_,_,he⟩:=he;split at he
        ·first|(simp at he;done)|(obtain⟨_,_,he⟩:=he;simp at he;done)|(simp only[Option.bind_eq_some_iff]at he;obtain⟨_,_,he⟩:=he;cases he)
        ·try simp only[Option.bind_eq_some_iff]at he
         obtain⟨_,_,he⟩:=he;split at he
         ·simp at he
         ·simp only[Option.some.injEq,Prod.mk.injEq]at he;exact he.2.symm
         ·cases he
        ·cases he
      subst hh;obtain⟨m,args',lo,_,hb,hw,q1,q2,q3⟩:=tY (P:=P) hf H he hl hlen;rw[q2];refine⟨hF.ok n,(Ey μ h' w l args K out m f0 ps gS body st p lo.fn _ hr hl hb H (o8 q3 q1) F (n - 1) hF).mono ?_⟩;rintro e w' ⟨v,v',h2,bd,k0,rfl,k1,k2⟩;exact hn bd v v' h2 w' k0 k1 k2
     ·cases hr
theorem A0 (hE:bK P E) (B0:zo P E base B cK) (Ey:AY P E base B rK) (Ez:AZ E cK) (EA:wV rK) {F:Fence} (hF:iH F) {n:Nat} {ops:Array Oper} {Q:Exit→Act→World→Prop} {K:AF→ah→Option Out} {out:Out}:∀(rest:List Oper) (k:Nat) (μ:bD) (f:AF) (h:ah) (a:Act) (w:World),
 (∀j,rest[j]? =ops[k+j]?)→p7 E base cK rK ops.toList rest f h K=some out→du μ f a.tmps→bB E base B μ h w→
 (∀f' h' bd a' w',K f' h'=some out→du bd f' a'.tmps→a'.defers=a.defers→Step E base B μ h w bd h' w'→Q .normal a' w')→wpOpsIn F n P ops Q (List.range' k rest.length) a w
 |[],k,μ,f,h,a,w,_,ha,hf,H,hQ=>hQ _ _ μ a w ha hf rfl (.refl H)
 |o::rest,k,μ,f,h,a,w,hk,ha,hf,H,hQ=>by
  have h0:ops[k]? =some o:=by simpa using(hk 0).symm
  have r7:∀j,rest[j]? =ops[k+1+j]? :=fun j=>by have:=hk (j+1);simpa[Nat.add_assoc,Nat.add_comm 1 j]using this
  simp only[List.length_cons,List.range'_succ,wpOpsIn,h0,tZ hf];simp only[p7]at ha;split at ha
  ·rename_i hw;rw[if_pos hw];refine Wm hE B0 Ey Ez EA hF hf H ha fun bd v v' h' w' q0 q1 q2=>?_;refine A0 hE B0 Ey Ez EA hF rest (k+1) bd (f.put o.dst v) h' _ w' r7 q0 ((hf.mono q2.le).put q1 o.dst) q2.rel fun f2 h2 xF a2 w2 p0 p1 p2 p3=>?_;exact hQ f2 h2 xF a2 w2 p0 p1 (by rw[p2];cases o.dst<;>rfl) (q2.trans p3)
  ·rename_i hw;rw[if_neg (by rw[hw];simp)];refine⟨fun _ _=>hF.fn _,?_⟩;refine A0 hE B0 Ey Ez EA hF rest (k+1) μ (f.put o.dst undef) h _ w r7 ha (hf.put (.undef μ) o.dst) H fun f2 h2 xF a2 w2 p0 p1 p2 p3=>?_;exact hQ f2 h2 xF a2 w2 p0 p1 (by rw[p2];cases o.dst<;>rfl) p3
def Fm (P:Program) (E:Env) (base B k:Nat):Prop:=
 ∀(c:Code) (f:AF) (h:ah) (K:KC) (out:Out),aP E base k c f h K=some out→
  ∀(μ:bD) (a:Act) (w:World) (W0:Nat) (rs:List Nat),du μ f a.tmps→bB E base B μ h w→cd W0 μ w a.defers rs→W0≤w.heap.size→
  ∀(F:Fence) (n:Nat) (Q:Exit→Act→World→Prop),iH F→(F.round=none∨aZ c=true)→
  (∀ex f' h' bd a' w' GW,K ex f' h'=some out→du bd f' a'.tmps→cd W0 bd w' a'.defers GW→Step E base B μ h w bd h' w'→Q (qq ex) a' w')→c.wpIn F n P Q a w
theorem Il (run:OG):AZ E (eP E base run):=by
 intro g args h K out hr;unfold eP at hr;split at hr
 ·cases hr
 ·rename_i fn hfn;rw[hfn];rfl
theorem OI (run:OG):wV (j9 base run):=by
 intro l args h K out hr;unfold j9 at hr;simp only[aj]at hr;obtain⟨_,hr⟩:=hr;split at hr
 ·rename_i p f ps gS body hg;simp only[aj,Bool.and_eq_true,beq_iff]at hr;exact⟨_,_,_,_,_,_,hg,hr.1.1.1⟩
 ·cases hr
theorem MR (hE:bK P E) (hO:kf P E base B) {k:Nat} (hk:Fm P E base B k):zo P E base B (eP E base (aP E base k)):=by
 intro μ h w g args args' K out hc hr H F n hF;unfold eP at hc;split at hc
 ·cases hc
 rename_i fn h1;split at hc
 ·rename_i r ho;refine(hO μ h w g args args' r.1 r.2 ho hr H F n hF).mono ?_;rintro e w' ⟨v',bd,rfl,k1,k2⟩;exact⟨_,v',_,bd,hc,rfl,k1,k2⟩
 ·split at hc
  ·cases hc
  rename_i c h2;simp only[aj,aL]at hc;obtain⟨hn,hc⟩:=hc;obtain⟨f1,f2,f3⟩:=hE.func _ _ h1;have fin:CallsIn F.plain n P g args' w (Wl E base B μ h w K out):=by
   refine callsIn_of_wp_marks f1 h2 (hF.fn _) ?_ rfl;refine hk c _ h _ out hc μ _ w w.heap.size [] (CL hr hn) H .nil (Nat.le_refl _) F.plain n _ hF.plain (.inl rfl) ?_;intro ex fe he bd a' w' GW q0 q1 q2 q3
   have lv:∀vs,cY E he fe fn.results.toList=some vs→K (ct vs) he=some out→LeavesInM F.plain n P fn a'.tmps (Wl E base B μ h w K out) a'.defers .returning w':=fun vs h3 h4=>
    o9 a'.defers GW w' q2 q3 fun w2 s2=>by
     obtain⟨v',p1,p2⟩:=xK (P:=P) hE q1 s2.rel h3;exact⟨v',p1,_,v',_,bd,h4,rfl,p2,s2⟩
   cases ex with
   |exit id=>simp at q0
   |normal=>
    simp only at q0;split at q0
    ·rename_i vs h3;exact lv vs h3 q0
    ·cases q0
   |ret=>
    simp only at q0;split at q0
    ·rename_i vs h3;exact lv vs h3 q0
    ·cases q0
  exact fin
end
section
variable {P:Program} {E:Env} {base B:Nat}
theorem So {k:Nat} (hk:Fm P E base B k):AY P E base B (j9 base (aP E base k)):=by
 intro μ h w l args K out m f0 ps gS body st p fn tmps hr hl hb H hf F n hF;unfold j9 at hr;simp only[aj,aL]at hr;obtain⟨bG,hr⟩:=hr;rw[hl]at hr;cases st with
 |ready=>
  simp only[aj,Bool.and_eq_true,beq_iff]at hr;obtain⟨⟨⟨hlen,CM⟩,nk⟩,hr⟩:=hr;refine roundIn_of_wpIn (hF.fn _) ?_;refine hk gS _ h _ out hr μ _ w w.heap.size [] hf H .nil (Nat.le_refl _) (F.inRound m.r) n _ (hF.inRound _) (.inr CM) ?_;intro ex1 f1 h1 gz a1 w1 u6 q0 q1 q2 s1;cases ex1 with
  |exit id=>simp at q0
  |ret=>simp at q0
  |normal=>
   simp only at q0;split at q0
   ·rename_i p1 f01 g6 sV kF JC;have rW:=s1.le _ _ hb;obtain⟨lo1,e1,e2,e3,s2⟩:=og s1.rel rW bG JC .busy p1;have ZJ:Step E base B gz h1 w1 gz (h1.put l (.loop .busy p1 f01 g6 sV kF)) {w1 with heap:=w1.heap.setIfInBounds m.r (.loop {lo1 with state:=.busy})}:=by
     rw[←e3]at s2 ⊢;exact s2
    refine⟨{w1 with heap:=w1.heap.setIfInBounds m.r (.loop {lo1 with state:=.busy})},?_,?_⟩
    ·unfold Instr.beginRound;simp only[Sem.run_bind,run_getLoop (P:=P) e1,Result.andThen_ok,cJ (P:=P) e1 (fun _ _ _=>by simp),e2,Sem.run_pure]
    refine hk body f1 _ _ out q0 gz a1 _ w.heap.size u6 q1 ZJ.rel (q2.step ZJ) (by rw[Array.size_setIfInBounds];exact s1.grow.size) (F.inRound m.r) n _ (hF.inRound _) (.inr nk) ?_;intro ex f2 h2 yN a3 w3 rs3 q0 q3 q4 s3;have pa:=(s1.trans ZJ);have Me:=s3.le _ _ rW;split at q0
    ·rename_i st2 p2 f02 zX ZI QZ Mc;have key:∀(Md:LoopState) (jump:Option Code),(jump.isNone=true→Md= .ready)→(jump.isNone=false→Md= .done)→∃w4,(Instr.endRound m.r jump).run P w3= .ok (.bool jump.isNone) w4∧Step E base B yN h2 w3 yN (h2.put l (.loop Md jump f02 zX ZI QZ)) w4:=by
      intro Md jump hj1 Yz;obtain⟨VD,d1,d2,d3,s4⟩:=og s3.rel Me bG Mc Md jump;refine⟨_,?_,s4⟩;unfold Instr.endRound;simp only[Sem.run_bind,run_getLoop (P:=P) d1,Result.andThen_ok,cJ (P:=P) d1 (fun _ _ _=>by simp),Sem.run_pure];cases hj:jump.isNone with
      |true=>rw[hj1 hj];simp
      |false=>rw[Yz hj];simp
     cases ex with
     |normal=>
      obtain⟨w4,k1,k2⟩:=key .ready none (fun _=>rfl) (fun h=>by simp at h);exact⟨_,w4,k1,_,_,_,yN,q0,rfl,.bool _ _,(pa.trans s3).trans k2⟩
     |ret=>
      obtain⟨w4,k1,k2⟩:=key .done (some .ret) (fun h=>by simp at h) (fun _=>rfl);exact⟨_,w4,k1,_,_,_,yN,q0,rfl,.bool _ _,(pa.trans s3).trans k2⟩
     |exit id=>
      obtain⟨w4,k1,k2⟩:=key .done (some (.exit id)) (fun h=>by simp at h) (fun _=>rfl);exact⟨_,w4,k1,_,_,_,yN,q0,rfl,.bool _ _,(pa.trans s3).trans k2⟩
    ·cases q0
   ·cases q0
 |busy=>cases hr
 |done=>cases hr
 |exhausted=>cases hr
theorem Wn (hE:bK P E) (hO:kf P E base B) (hD:ED P E base B):∀k,Fm P E base B k∧
 (∀(b:Code) (f:AF) (h:ah) (K:KC) (out:Out),aP E base k (.loop b) f h K=some out→
  ∀(μ:bD) (a:Act) (w:World) (W0:Nat) (rs:List Nat),du μ f a.tmps→bB E base B μ h w→cd W0 μ w a.defers rs→W0≤w.heap.size→
  ∀(F:Fence) (n:Nat) (Q:Exit→Act→World→Prop),iH F→(F.round=none∨aZ b=true)→
  (∀ex f' h' bd a' w' GW,K ex f' h'=some out→du bd f' a'.tmps→cd W0 bd w' a'.defers GW→Step E base B μ h w bd h' w'→Q (qq ex) a' w')→Code.roundsIn F n P b Q k a w):=by
 intro k
 induction k with
 |zero=>exact⟨fun c f h K out hr=>by simp[aP]at hr,fun b f h K out hr=>by simp[aP]at hr⟩
 |succ k ih=>
  obtain⟨hk,Q0⟩:=ih;have u7:=MR hE hO hk;have EF:=So hk
  have GY:∀(b:Code) (f:AF) (h:ah) (K:KC) (out:Out),aP E base (k+1) (.loop b) f h K=some out→
   ∀(μ:bD) (a:Act) (w:World) (W0:Nat) (rs:List Nat),du μ f a.tmps→bB E base B μ h w→cd W0 μ w a.defers rs→W0≤w.heap.size→
   ∀(F:Fence) (n:Nat) (Q:Exit→Act→World→Prop),iH F→(F.round=none∨aZ b=true)→
   (∀ex f' h' bd a' w' GW,K ex f' h'=some out→du bd f' a'.tmps→cd W0 bd w' a'.defers GW→Step E base B μ h w bd h' w'→Q (qq ex) a' w')→Code.roundsIn F n P b Q (k+1) a w:=by
   intro b f h K out hr μ a w W0 rs hf H hm hW F n Q hF zY hQ;simp only[aP]at hr;rw[roundsIn_succ];refine hk b f h _ out hr μ a w W0 rs hf H hm hW F n _ hF zY fun ex f1 h1 gz a1 w1 u6 q0 q1 q2 s1=>?_;cases ex with
   |normal=>exact Q0 b f1 h1 K out q0 gz a1 w1 W0 u6 q1 s1.rel q2 (Nat.le_trans hW s1.grow.size) F n Q hF zY fun ex f2 h2 xF a2 w2 ZK p0 p1 p2 s2=>hQ ex f2 h2 xF a2 w2 ZK p0 p1 p2 (s1.trans s2)
   |exit id=>exact hQ _ f1 h1 gz a1 w1 u6 q0 q1 q2 s1
   |ret=>exact hQ _ f1 h1 gz a1 w1 u6 q0 q1 q2 s1
  refine⟨?_,GY⟩;intro c f h K out hr μ a w W0 rs hf H hm hW F n Q hF zY hQ;cases c with
  |skip=>exact wpIn_skip (hQ .normal f h μ a w rs (by simpa[aP]using hr) hf hm (.refl H))
  |exit id=>exact wpIn_exit (hQ (.exit id) f h μ a w rs (by simpa[aP]using hr) hf hm (.refl H))
  |ret=>exact wpIn_ret (hQ .ret f h μ a w rs (by simpa[aP]using hr) hf hm (.refl H))
  |seq x y=>
   simp only[aP]at hr;have hx:F.round=none∨aZ x=true:=zY.imp (fun h=>h) fun h=>by simp[aZ]at h;exact h.1
   have hy:F.round=none∨aZ y=true:=zY.imp (fun h=>h) fun h=>by simp[aZ]at h;exact h.2
   refine wpIn_seq ?_;refine hk x f h _ out hr μ a w W0 rs hf H hm hW F n _ hF hx fun ex f1 h1 gz a1 w1 u6 q0 q1 q2 s1=>?_;cases ex with
   |normal=>exact hk y f1 h1 K out q0 gz a1 w1 W0 u6 q1 s1.rel q2 (Nat.le_trans hW s1.grow.size) F n Q hF hy fun ex f2 h2 xF a2 w2 ZK p0 p1 p2 s2=>hQ ex f2 h2 xF a2 w2 ZK p0 p1 p2 (s1.trans s2)
   |exit id=>exact hQ _ f1 h1 gz a1 w1 u6 q0 q1 q2 s1
   |ret=>exact hQ _ f1 h1 gz a1 w1 u6 q0 q1 q2 s1
  |cond cx x y=>
   simp only[aP]at hr;have hx:F.round=none∨aZ x=true:=zY.imp (fun h=>h) fun h=>by simp[aZ]at h;exact h.1
   have hy:F.round=none∨aZ y=true:=zY.imp (fun h=>h) fun h=>by simp[aZ]at h;exact h.2
   cases hb:(ev E f cx).bind Gs with
   |none=>rw[hb]at hr;cases hr
   |some b=>
    simp only[Option.bind_eq_some_iff]at hb;obtain⟨v,h1,h2⟩:=hb;have hb:(ev E f cx).bind Gs=some b:=by simp[h1,h2]
    rw[hb]at hr;have e:=zP h2;subst e;have hc:=(bq H.dN hf h1).ar rfl;cases b with
    |true=>exact wpIn_cond_true hc (hk x f h K out hr μ a w W0 rs hf H hm hW F n Q hF hx hQ)
    |false=>exact wpIn_cond_false hc (hk y f h K out hr μ a w W0 rs hf H hm hW F n Q hF hy hQ)
  |block id b=>
   simp only[aP]at hr;have cA:F.round=none∨aZ b=true:=zY.imp (fun h=>h) fun h=>by simpa[aZ]using h
   refine wpIn_block ?_;refine hk b f h _ out hr μ a w W0 rs hf H hm hW F n _ hF cA fun ex f1 h1 gz a1 w1 u6 q0 q1 q2 s1=>?_;cases ex with
   |normal=>exact hQ _ f1 h1 gz a1 w1 u6 q0 q1 q2 s1
   |ret=>exact hQ _ f1 h1 gz a1 w1 u6 q0 q1 q2 s1
   |exit nU=>
    simp only[cu]at q0;show(if nU=id then Q .normal a1 w1 else Q (.exit nU) a1 w1);by_cases e:nU=id
    ·rw[if_pos (beq_iff.2 e)]at q0;rw[if_pos e];exact hQ _ f1 h1 gz a1 w1 u6 q0 q1 q2 s1
    ·rw[if_neg (fun hh=>e (beq_iff.1 hh))]at q0;rw[if_neg e];exact hQ _ f1 h1 gz a1 w1 u6 q0 q1 q2 s1
  |loop b=>
   exact wpIn_loop_rounds (k+1) (GY b f h K out hr μ a w W0 rs hf H hm hW F n Q hF (zY.imp (fun h=>h) fun h=>by simpa[aZ]using h) hQ)
  |region id ops draw=>
   simp only[aP]at hr;cases draw with
   |false=>
    refine wpIn_region ?_;have:=A0 hE u7 EF (Il _) (OI _) hF (n:=n) (ops:=ops) (Q:=Q) ops.toList 0 μ f h a w (fun j=>by simp) hr hf H fun f' h' gz a1 w1 q0 q1 q2 s1=>hQ _ f' h' gz a1 w1 rs q0 q1 (by rw[q2];exact hm.step s1) s1;rw[List.range_eq_range',←Array.length_toList];exact this
   |true=>
    simp only at hr;split at hr
    ·rename_i ex f' h' ai6;have aeY:aN E base (k+1) (.region id ops true) f h=some (ex,f',h'):=by simpa only[aN]using ai6
     exact(codeOk hE hO hD (k+1)).1 _ f h ex f' h' aeY μ a w W0 rs hf H hm hW F n Q hF zY fun bd a' w' GW q1 q2 s1=>hQ ex f' h' bd a' w' GW hr q1 q2 s1
    ·cases hr
  |rangeFunc g ps gS body=>
   have B2:F.round=none:=zY.resolve_right (by simp[aZ]);simp only[aP]at hr;split at hr
   ·rename_i gid first captured h1
    simp only[aj,aL]at hr;obtain⟨bG,hc⟩:=hr;have BQ:=bq H.dN hf h1;generalize hq:a.eval g=q at BQ;cases BQ with
    |lit hh=>simp[ay]at hh
    |func t1 t2 t3 t4=>
     rename_i tX jJ;refine wpIn_rangeFunc fun fn _=>?_
     let wA:World:={w with heap:=w.heap.push (.deferred (some []))}
     let lo:Loop:={state:=.ready,pending:=none,fn:=fn,tmps:=a.tmps,params:=ps,assign:=gS,body:=body,defers:=w.heap.size}
     let wB:World:={wA with heap:=wA.heap.push (.loop lo)}
     have sA:Step E base B μ h w μ h wA:=Step.adT H (GI.mk' w _);have ah6:wA.heap.size=w.heap.size+1:=by simp[wA]
     have sB:=Step.alloc (o:=.loop .ready none f ps.toList gS body) sA.rel (GI.mk' wA (.loop lo)) 0 (fun _ _ _ _ hh=>by cases hh) (by
      have:=jA.loop (μ:=lr μ h.size ⟨wA.heap.size,0,0⟩) (h:=h.push (.loop .ready none f ps.toList gS body)) (base:=base) (b:=h.size) (m:=⟨wA.heap.size,0,0⟩) (st:=.ready) (p:=none) (ps:=ps.toList) (gS:=gS) (body:=body) (fn:=fn) (d:=w.heap.size) (hf.mono (g9 H.fresh));simpa using this)
     let mk:Deferred:={target:=.collected w.heap.size,args:= #[]}
     have hmk:wx W0 μ wA mk w.heap.size:=⟨rfl,by simp[wA],fun b m hb he=>by have:=H.lt hb;omega,hW⟩;have NW:w.heap.size∉rs:=by
      have:∀{ds:List Deferred} {rs:List Nat},cd W0 μ w ds rs→∀r∈rs,r<w.heap.size:=by
       intro ds rs k
       induction k with
       |nil=>intro r hr;simp at hr
       |cons h1 _ _ ih=>intro r hr;rcases List.mem_cons.1 hr with rfl |hr
                        ·exact(Array.getElem?_eq_some_iff.1 h1.obj).1
                        ·exact ih r hr
      intro zZ;have:=this hm _ zZ;omega
     have hmarks:cd W0 μ wA (mk::a.defers) (w.heap.size::rs):=.cons hmk NW (hm.step sA)
     let args':Array Value:=tX++ #[.func (.yield wA.heap.size) #[] #[]]++jJ
     have zU:=Il (E:=E) _ _ _ _ _ _ hc;obtain⟨fnr,ZM⟩:=Option.isSome_iff_exists.1 zU;obtain⟨g1,g2,g3⟩:=hE.func _ _ ZM;have hbn:fnr.body.isNone=false:=by cases hx:fnr.body<;>simp_all
     have kH:ax (lr μ h.size ⟨wA.heap.size,0,0⟩) (first.toList++[.func (.yield h.size) #[] #[]]++captured.toList) args'.toList:=by
      have hle:μ.le (lr μ h.size ⟨wA.heap.size,0,0⟩):=g9 H.fresh;have v1:=(ax.oU t1 t2).mono hle;have v3:=(ax.oU t3 t4).mono hle;have v2:=ax.cons (aq.yield (bY μ h.size ⟨wA.heap.size,0,0⟩)) .nil;simpa[args']using(v1.append v2).append v3
     refine⟨wA.heap.size,[mk],wB,{target:=.fn (.func gid) jJ,args:=tX++ #[.func (.yield wA.heap.size) #[] #[]]},wB,gid,args',wB,?_,?_,fun _ _=>hF.fn _,?_,hF.ok n,?_⟩
     ·rw[B2];unfold Instr.enterLoop;simp only[Sem.run_bind,run_newObj,Result.andThen_ok,Sem.run_pure];rfl
     ·have hcv:∀v:Value,a.eval (.const v)=v:=fun _=>rfl;simp[resolve,hq,Deferred.ofValue,Sem.run_pure,hcv]
     ·simp only[invoke,callFunc,Sem.run_bind,run_program,Result.andThen_ok,g1,g3,hbn,Bool.false_eq_true,if_false,Sem.run_pure];rfl
     ·refine(u7 _ _ wB gid _ args' _ out hc kH sB.rel F (n - 1) hF).mono ?_;rintro e w3 ⟨rv,v',h2,yN,q0,rfl,k1,s3⟩;have Me:yN h.size=some ⟨wA.heap.size,0,0⟩:=s3.le _ _ (bY _ _ _);simp only at q0;split at q0
      ·rename_i st p f0 Qg yI pO hl;simp only[aj]at q0;obtain⟨bz,q0⟩:=q0;obtain⟨VD,d1,d2,d3,s4⟩:=og s3.rel Me bG hl .exhausted p;have ZN:Step E base B yN h2 w3 yN (h2.put h.size (.loop .exhausted p f0 Qg yI pO)) {w3 with heap:=w3.heap.setIfInBounds wA.heap.size (.loop {VD with state:=.exhausted})}:=by
        rw[←d3]at s4 ⊢;exact s4
       have pa:=((sA.trans sB).trans s3).trans ZN;have NY:cd W0 yN {w3 with heap:=w3.heap.setIfInBounds wA.heap.size (.loop {VD with state:=.exhausted})} (mk::a.defers) (w.heap.size::rs):=((hmarks.step sB).step s3).step ZN;refine⟨p,{w3 with heap:=w3.heap.setIfInBounds wA.heap.size (.loop {VD with state:=.exhausted})},?_,?_⟩
       ·unfold Instr.endLoop;simp only[Sem.run_bind,run_getLoop (P:=P) d1,Result.andThen_ok];rw[if_neg (by rw[d2];intro hh;rw[bne_iff_ne]at bz;exact bz (eq_of_beq hh))];simp only[Sem.run_bind,cJ (P:=P) d1 (fun _ _ _=>by simp),Result.andThen_ok,Sem.run_pure,d3]
       ·cases p with
        |none=>exact hQ _ f _ yN _ _ _ q0 (hf.mono pa.le) NY pa
        |some cj=>
         exact hk cj f _ K out q0 yN {a with defers:=mk::a.defers} _ W0 _ (hf.mono pa.le) ZN.rel NY (Nat.le_trans hW pa.grow.size) F n Q hF (.inl B2) fun ex f5 h5 μ5 a5 w5 rs5 p0 p1 p2 s5=>hQ ex f5 h5 μ5 a5 w5 rs5 p0 p1 p2 (pa.trans s5)
      ·cases q0
   ·cases hr
  |scope b=>simp only[aP]at hr;cases hr
  |label l=>simp only[aP]at hr;cases hr
  |goto l=>simp only[aP]at hr;cases hr
  |refuse s=>simp only[aP]at hr;cases hr
theorem vH (hE:bK P E) (hO:kf P E base B) (hm:P.follows .mixedOrders=true) (n:Nat):zo P E base B (MQ E base n):=
 MR hE hO (Wn hE hO (Mj hE hm) n).1
end
def Im (base:Nat):KV:=fun v h'=>match v with
 | .slice (some ⟨b,o,some z⟩) len _=>(ai h' b o (len*z)).bind fun cs=>bL (Nat.ble base b&&Nat.blt 0 len&&cs.all scalar) (some (.bool false::goInt len::goInt z::cs))
 |v=>bL (ay v) (some [.bool true,v])
def A3 (h:ah):Out→Option (Value×ah)
 |[.bool true,v]=>bL (ay v) (some (v,h))
 | .bool false:: .int _ (.ofNat len):: .int _ (.ofNat z)::cs=>some (.slice (some ⟨h.size,0,some z⟩) len (len+1),h.push (.cells cs h.size (h.size+1) 0))
 |_=>none
noncomputable def Io (E:Env) (n:Nat):fk:=fun g args h=>(MQ E h.size n g args h (Im h.size)).bind (A3 h)
theorem bB.ext {E:Env} {base B:Nat} {μ:bD} {h:ah} {w w':World} (H:bB E base B μ h w) (hs:w.heap.size≤w'.heap.size) (hk:∀r,r<w.heap.size→w'.heap[r]? =w.heap[r]?):bB E base B μ h w':=
 ⟨H.g8,H.high,fun b m hb=>by
  obtain⟨p,p',k1,k2,k3⟩:=H.obj b m hb;exact⟨p,p',k1,by rw[hk _ (H.lt hb)];exact k2,k3⟩,H.own,H.alias,H.dQ,H.dN,Nat.le_trans H.low hs,H.mF,H.wf,H.root⟩
theorem bB.Fo {E E0:Env} {base B:Nat} {μ:bD} {h:ah} {w:World} (H:bB E base B μ h w) (hg:∀g,E0.dN g=true→E.dN g=true):bB E0 h.size w.heap.size μ h w:=
 ⟨H.g8,H.high,fun b m hb=>by
  obtain⟨p,p',k1,k2,k3⟩:=H.obj b m hb;have hd:=H.g8 b m hb;refine⟨p,p',k1,k2,?_⟩;cases k3 with
  |cells hn hl hf hc=>exact .cells hn hl (fun h=>by omega) hc
  |map hs=>exact .map hs
  |jE hs=>exact .jE hs
  |nh hs=>exact .nh hs
  |cV hk hs=>exact .cV hk hs
  |loop hf=>exact .loop hf
  |iA hp hs hc hn=>exact .iA hp hs hc hn,fun b m hb Gu=>by have:=H.g8 b m hb;omega,fun b1 b2 m1 m2 h1 h2 _ _ Gu=>by have:=H.g8 b1 m1 h1;have:=H.g8 b2 m2 h2;omega,H.dQ,fun g ZQ=>H.dN g (hg g ZQ),Nat.le_refl _,Nat.le_refl _,H.wf,H.root⟩
section
variable {P:Program} {E E0:Env} {base B:Nat}
theorem uv {μ:bD} {h hX:ah} {w:World} (H:bB E base B μ h w) (_:hX.size=h.size) {out:Out} {v:Value} {h':ah} (px:A3 h out=some (v,h')) {u u':Value} {h1:ah} {gz:bD} {w':World}
 (hK:Im h.size u h1=some out) (hv:aq gz u u') (S:Step E0 h.size w.heap.size μ hX w gz h1 w'):o5 E base B μ h w v h' (.returned u') w':=by
 have hold:∀r,r<w.heap.size→w'.heap[r]? =w.heap[r]? :=fun r mn=>S.grow.bx r mn fun b m hb _=>H.g8 b m hb;have Hx:=H.ext S.grow.size hold;have gr:Grow base μ w w':=⟨S.grow.tape,S.grow.os,S.grow.output,S.grow.size,fun r mn _=>hold r mn⟩;have plain:∀v:Value,ay v=true→A3 h [.bool true,v]=some (v,h):=fun v hp=>by simp[A3,bL,hp]
 unfold Im at hK;split at hK
 ·rename_i b o z len cap;simp only[Option.bind_eq_some_iff,aj,Bool.and_eq_true,aL,bc,Option.some.injEq]at hK;obtain⟨cs,gW,⟨⟨Gu,hlen⟩,hsc⟩,rfl⟩:=hK;simp only[A3,goInt,Option.some.injEq,Prod.mk.injEq]at px;obtain⟨rfl,rfl⟩:=px;cases hv with
  |lit hh=>simp[ay]at hh
  |dr hb=>omega
  |slice hb q1 q2 q3 q4=>
   rename_i cap' m;obtain⟨o1,o2,k1,k2,k3⟩:=S.rel.obj b m hb;obtain⟨rc1,rc2⟩:=S.rel.ai hb gW;have KM:w.heap.size≤m.r:=by
    have hn:μ b=none:=by
     cases hx:μ b with
     |none=>rfl
     |some mx=>have:=H.g8 b mx hx;omega
    rcases(S.new b m hn hb).2.2 with h5|⟨b0,m0,r1,r2,_⟩
    ·exact h5
    ·have:=H.g8 b0 m0 r2;omega
   let m2:MT:=⟨m.r,m.s+o,m.n⟩
   have Hp:=Hx.Q6 (o:=.cells cs h.size (h.size+1) 0) (fun _ _ _ _ hh=>by cases hh;rfl);have eW:(h.push (.cells cs h.size (h.size+1) 0)).get h.size=some (.cells cs h.size (h.size+1) 0):=by rw[ah.al,if_pos rfl]
   obtain⟨c0,e0,fr0,N5,hcn,B0,vy⟩:∃c e fr,w'.heap[m.r]? =some (.cells c e fr)∧c.size=m.n∧qi fr m.n∧(∀(i:Nat) v,cs[i]? =some v→∃v',c[m.s+o+i]? =some v'∧aq gz v v'):=by
    have KN:=gW;unfold M.ai at KN;simp only[Option.bind_eq_some_iff]at KN;obtain⟨ME,U7,_⟩:=KN;obtain⟨c,e,fr,t1,t2,t3,t4,t5⟩:=S.rel.read hb U7;refine⟨c,e,fr,t1,t2,t4 Gu,fun i v hv=>?_⟩;obtain⟨v',s1,s2⟩:=rc2 i v hv;refine⟨v',?_,s2⟩;simpa[World.cell?,t1]using s1
   have hle:m.s+o+cs.length≤m.n:=by
    rw[rc1];have:len*z≤cap'*z:=Nat.mul_le_mul_right z q2;omega
   have YV:∀(i:Nat) v,cs[i]? =some v→scalar v=true:=fun i v hv=>List.all_eq_true.1 hsc v (List.mem_of_getElem? hv);have ho:jA (lr μ h.size m2) (h.push (.cells cs h.size (h.size+1) 0)) base h.size m2 (.cells cs h.size (h.size+1) 0) (.cells c0 e0 fr0):=by
    refine .cells hcn hle (fun _=>B0) fun _ i v hv=>?_;obtain⟨v',s1,s2⟩:=vy i v hv;have:=s2.ar (YV i v hv);subst this;exact⟨v',s1,.rV _ (YV i v' hv)⟩
   have Ht:=Hp.Mg (b:=h.size) (m:=m2) (by simp[ah.size_push]) eW H.fresh H.mF (by have:=H.low;show B≤m.r;omega) N5
    (fun d md hd he=>by have:=H.lt hd;simp only[m2]at he;omega) (fun _ _ _ _ hh=>by cases hh;exact⟨rfl,om⟩) (fun _ _ hh=>by simp at hh) ho
   refine⟨_,lr μ h.size m2,rfl,?_,Ht,gr,g9 H.fresh,fun d md h0 hd=>?_,fun d hd _=>by rw[ah.al,if_neg om],by simp[ah.size_push]⟩
   ·have:=aq.slice (μ:=lr μ h.size m2) (b:=h.size) (o:=0) (z:=z) (len:=len) (cap:=len+1) (cap':=cap') (m:=m2) (bY _ _ _) om q2 (fun h=>by omega) (by simpa[m2]using q4);simpa[m2]using this
   ·by_cases ed:d=h.size
    ·subst ed;rw[bY]at hd;cases hd;exact⟨Nat.le_refl _,H.mF,.inl KM⟩
    ·rw[qj _ _ ed,h0]at hd;cases hd
 ·simp only[aj,Option.some.injEq]at hK;obtain⟨hp,rfl⟩:=hK;rw[plain _ hp]at px;simp only[Option.some.injEq,Prod.mk.injEq]at px;obtain⟨rfl,rfl⟩:=px;have:u'=u:=by cases u<;>simp[ay]at hp<;>cases hv<;>first|rfl |simp_all
  subst this;exact⟨u',μ,rfl,.lit hp,Hx,gr,μ.le_refl,fun b m h0 h1=>(by rw[h0]at h1;cases h1),fun _ _ _=>rfl,Nat.le_refl _⟩
theorem Sp (hE0:bK P E0) (hO:∀base B,kf P E0 base B) (hm:P.follows .mixedOrders=true) (hg:∀g,E0.dN g=true→E.dN g=true) (k:Nat):kA P E base B (Io E0 k):=by
 intro μ h w g args args' v h' hc hr H F n hF;unfold Io at hc;simp only[Option.bind_eq_some_iff]at hc;obtain⟨out,ia,px⟩:=hc;have H2:=H.Fo hg;refine(vH hE0 (hO _ _) hm k μ h w g args args' _ out ia hr H2 F n hF).mono ?_;rintro e w' ⟨u,u',h1,gz,hK,rfl,hv,S⟩;exact uv H rfl px hK hv S
end
noncomputable def akM (P:Program) (fs:List Nat) (n:Nat):FuncId→List Value→ah→Option (Value×ah):=fun g args h=>
 match fs.contains g with
 |true=>Io (jG P mN) n g args h
 |false=>none
def Wo (x:Int):List Int→List Int
 |[]=>[x]
 |y::l=>bif Int.blt' x y then x::y::l else y::Wo x l
where Int.blt' (x y:Int):Bool:=decide (x<y)
def yf:List Int→List Int
 |[]=>[]
 |x::l=>Wo x (yf l)
theorem Dm (x:Int):∀l,(Wo x l).Perm (x::l)
 |[]=>.refl _
 |y::l=>by
  unfold Wo;rw[cu];split
  ·exact .refl _
  ·exact((Dm x l).cons y).trans (.swap x y l)
theorem A4:∀l,(yf l).Perm l
 |[]=>.refl _
 |x::l=>(Dm x _).trans ((A4 l).cons x)
def yk:List Value→Option (List Int)
 |[]=>some []
 | .int .i64 x::l=>(yk l).bind fun r=>some (x::r)
 |_=>none
theorem A5:∀{l:List Value} {r:List Int},yk l=some r→l=r.map (.int .i64)
 |[],r,h=>by simp[yk]at h;subst h;rfl
 | .int .i64 x::l,r,h=>by
  simp only[yk,Option.bind_eq_some_iff,Option.some.injEq]at h;obtain⟨r',h1,rfl⟩:=h;rw[A5 h1];rfl
def ae0 (base:Nat):KV:=fun v h'=>match v with
 | .slice (some ⟨b,o,some 1⟩) len _=>(ai h' b o len).bind fun cs=>(yk cs).bind fun xs=>bL (Nat.ble base b&&Nat.blt 0 len) (some (.bool false::goInt len::(yf xs).map (.int .i64)))
 |v=>bL (ay v) (some [.bool true,v])
def Wp (h:ah):Out→Option (Value×ah)
 |[.bool true,v]=>bL (ay v) (some (v,h))
 | .bool false:: .int _ (.ofNat len)::cs=>(yk cs).bind fun xs=>some (.slice (some ⟨h.size,0,some 1⟩) len (len+1),h.push (.iA xs))
 |_=>none
noncomputable def Fp (E:Env) (n:Nat):fk:=fun g args h=>(MQ E h.size n g args h (ae0 h.size)).bind (Wp h)
theorem Dn:∀l:List Int,yk (l.map (.int .i64))=some l
 |[]=>rfl
 |x::l=>by simp[yk,Dn l]
section
variable {P:Program} {E E0:Env} {base B:Nat}
theorem OJ (hE0:bK P E0) (hO:∀base B,kf P E0 base B) (hm:P.follows .mixedOrders=true) (hg:∀g,E0.dN g=true→E.dN g=true) (k:Nat):kA P E base B (Fp E0 k):=by
 intro μ h w g args args' v h' hc hr H F n hF;unfold Fp at hc;simp only[Option.bind_eq_some_iff]at hc;obtain⟨out,ia,px⟩:=hc;have H2:=H.Fo hg;refine(vH hE0 (hO _ _) hm k μ h w g args args' _ out ia hr H2 F n hF).mono ?_;rintro e w' ⟨u,u',h1,gz,hK,rfl,hv,S⟩;have hold:∀r,r<w.heap.size→w'.heap[r]? =w.heap[r]? :=fun r mn=>S.grow.bx r mn fun b m hb _=>H.g8 b m hb;have Hx:=H.ext S.grow.size hold;have gr:Grow base μ w w':=⟨S.grow.tape,S.grow.os,S.grow.output,S.grow.size,fun r mn _=>hold r mn⟩;have plain:∀v:Value,ay v=true→Wp h [.bool true,v]=some (v,h):=fun v hp=>by simp[Wp,bL,hp]
 unfold ae0 at hK;split at hK
 ·rename_i b o len cap;simp only[Option.bind_eq_some_iff,aj,Bool.and_eq_true,aL,bc,Option.some.injEq]at hK;obtain⟨cs,gW,xs,Qi,⟨Gu,hlen⟩,rfl⟩:=hK;have s9:=A5 Qi;simp only[Wp,goInt,Dn,Option.bind_some,Option.some.injEq,Prod.mk.injEq]at px;obtain⟨rfl,rfl⟩:=px;cases hv with
  |lit hh=>simp[ay]at hh
  |dr hb=>omega
  |slice hb q1 q2 q3 q4=>
   rename_i cap' m;obtain⟨rc1,rc2⟩:=S.rel.ai hb gW;have KM:w.heap.size≤m.r:=by
    have hn:μ b=none:=by
     cases hx:μ b with
     |none=>rfl
     |some mx=>have:=H.g8 b mx hx;omega
    rcases(S.new b m hn hb).2.2 with h5|⟨b0,m0,r1,r2,_⟩
    ·exact h5
    ·have:=H.g8 b0 m0 r2;omega
   let m2:MT:=⟨m.r,m.s+o,m.n⟩
   have Hp:=Hx.Q6 (o:=.iA (yf xs)) (fun _ _ _ _ hh=>by cases hh);have eW:(h.push (.iA (yf xs))).get h.size=some (.iA (yf xs)):=by rw[ah.al,if_pos rfl]
   obtain⟨c0,e0,fr0,N5,hcn,vy⟩:∃c e fr,w'.heap[m.r]? =some (.cells c e fr)∧c.size=m.n∧(∀(i:Nat) v,cs[i]? =some v→∃v',c[m.s+o+i]? =some v'∧aq gz v v'):=by
    have KN:=gW;unfold M.ai at KN;simp only[Option.bind_eq_some_iff]at KN;obtain⟨ME,U7,_⟩:=KN;obtain⟨c,e,fr,t1,t2,t3,t4,t5⟩:=S.rel.read hb U7;refine⟨c,e,fr,t1,t2,fun i v hv=>?_⟩;obtain⟨v',s1,s2⟩:=rc2 i v hv;refine⟨v',?_,s2⟩;simpa[World.cell?,t1]using s1
   have hxl:xs.length=len:=by rw[←rc1,s9];simp
   have ho:jA (lr μ h.size m2) (h.push (.iA (yf xs))) base h.size m2 (.iA (yf xs)) (.cells c0 e0 fr0):=by
    refine .iA (l:=xs) (A4 xs).symm (by show m.s+o+xs.length≤m.n;omega) (fun i x hx=>?_) hcn;obtain⟨v',s1,s2⟩:=vy i (.int .i64 x) (by rw[s9];simp[hx]);have:=s2.ar rfl;subst this;exact s1
   have Ht:=Hp.Mg (b:=h.size) (m:=m2) (by simp[ah.size_push]) eW H.fresh H.mF (by have:=H.low;show B≤m.r;omega) N5
    (fun d md hd he=>by have:=H.lt hd;simp only[m2]at he;omega) (fun _ _ _ _ hh=>by cases hh) (fun _ _ hh=>by cases hh) ho
   refine⟨_,lr μ h.size m2,rfl,?_,Ht,gr,g9 H.fresh,fun d md h0 hd=>?_,fun d hd _=>by rw[ah.al,if_neg om],by simp[ah.size_push]⟩
   ·have:=aq.slice (μ:=lr μ h.size m2) (b:=h.size) (o:=0) (z:=1) (len:=len) (cap:=len+1) (cap':=cap') (m:=m2) (bY _ _ _) om q2 (fun h=>by omega) (by simpa[m2]using q4);simpa[m2]using this
   ·by_cases ed:d=h.size
    ·subst ed;rw[bY]at hd;cases hd;exact⟨Nat.le_refl _,H.mF,.inl KM⟩
    ·rw[qj _ _ ed,h0]at hd;cases hd
 ·simp only[aj,Option.some.injEq]at hK;obtain⟨hp,rfl⟩:=hK;rw[plain _ hp]at px;simp only[Option.some.injEq,Prod.mk.injEq]at px;obtain⟨rfl,rfl⟩:=px;have:u'=u:=by cases u<;>simp[ay]at hp<;>cases hv<;>first|rfl |simp_all
  subst this;exact⟨u',μ,rfl,.lit hp,Hx,gr,μ.le_refl,fun b m h0 h1=>(by rw[h0]at h1;cases h1),fun _ _ _=>rfl,Nat.le_refl _⟩
end
def wW (x:Int):List Int→List (List Int)
 |[]=>[[x]]
 |y::l=>(x::y::l)::(wW x l).map (y::·)
def perms:List Int→List (List Int)
 |[]=>[[]]
 |x::l=>(perms l).flatMap (wW x)
theorem A6 (x:Int):∀a b:List Int,a++x::b∈wW x (a++b)
 |[],[]=>by simp[wW]
 |[],y::b=>by simp[wW]
 |y::a,b=>by
  simp only[List.cons_append,wW,List.mem_cons,List.mem_map];exact .inr ⟨_,A6 x a b,rfl⟩
theorem Dp:∀{cs l:List Int},l.Perm cs→l∈perms cs
 |[],l,h=>by simp[perms,h.eq_nil]
 |x::cs,l,h=>by
  have hx:x∈l:=h.mem_iff.2 List.mem_cons_self;obtain⟨a,b,rfl⟩:=List.append_of_mem hx;have hp:(a++b).Perm cs:=(List.perm_middle.symm.trans h).cons_inv;simp only[perms,List.mem_flatMap];exact⟨a++b,Dp hp,A6 x a b⟩
def vI (h:ah):List Value→Option (Nat×List Int)
 |[]=>none
 | .slice (some ⟨b,_,some _⟩) _ cap::l=>(match Nat.beq cap 0,h.get b with
  |false,some (.iA cs)=>some (b,cs)
  |_,_=>vI h l)
 |_::l=>vI h l
def KP (h:ah) (b:Nat):Bool:=(List.range h.size).all fun c=>match h.get c with
 |some (.cells _ f _ _)=> !Nat.beq f b
 |_=>true
noncomputable def Fq (E:Env) (n:Nat):fk:=fun g args h=>(vI h args).bind fun r=>bL (Nat.blt r.1 h.size&&KP h r.1)<|
 (meet ((perms r.2).map fun l=>MQ E h.size n g args (h.put r.1 (.cells (l.map (.int .i64)) r.1 h.size 0)) (Im h.size))).bind (A3 h)
theorem OL {h:ah} {args:List Value} {r:Nat×List Int} (hr:vI h args=some r):h.get r.1=some (.iA r.2):=by
 induction args with
 |nil=>simp[vI]at hr
 |cons v l ih=>
  unfold vI at hr;split at hr
  ·cases hr
  ·rename_i b o z len cap l' heq;simp only[List.cons.injEq]at heq;obtain⟨_,rfl⟩:=heq;split at hr
   ·rename_i cs hg;simp only[Option.some.injEq]at hr;subst hr;exact hg
   ·exact ih hr
  ·rename_i v' l' _ heq;simp only[List.cons.injEq]at heq;obtain⟨_,rfl⟩:=heq;exact ih hr
section
variable {P:Program} {E E0:Env} {base B:Nat}
theorem bB.ae1 {μ:bD} {h:ah} {w:World} (H:bB E base B μ h w) (aja:∀b,b<h.size→b<base) {b:Nat} {m:MT} (hb:μ b=some m) {cs:List Int} (hg:h.get b=some (.iA cs)) (hn:KP h b=true):
 ∃l:List Int,l.Perm cs∧bB E base B μ (h.put b (.cells (l.map (.int .i64)) b h.size 0)) w:=by
 obtain⟨p,p',k1,k2,k3⟩:=H.obj b m hb;rw[hg]at k1;cases k1;have OM:=H.g8 b m hb;cases k3 with
 |iA hp hl hc hcn=>
  rename_i c e fr l;refine⟨l,hp,?_⟩;have bZ:∀c cs' f t th,h.get c=some (.cells cs' f t th)→f≠b:=by
   intro c cs' f t th wz YW;have s9:c<h.size:=by
    rcases Nat.lt_or_ge c h.size with h1|h1
    ·exact h1
    ·rw[H.high c h1]at wz;cases wz
   unfold KP at hn;have:=List.all_eq_true.1 hn c (List.mem_range.2 s9);rw[wz]at this;simp[YW]at this
  have Fs:∀c,c≠b→(h.put b (.cells (l.map (.int .i64)) b h.size 0)).get c=h.get c:=fun c hc=>by rw[ah.br,if_neg hc]
  have ql:(h.put b (.cells (l.map (.int .i64)) b h.size 0)).get b=some (.cells (l.map (.int .i64)) b h.size 0):=by rw[ah.br,if_pos rfl]
  have oc:∀c,c≠b→(h.put b (.cells (l.map (.int .i64)) b h.size 0)).dQ c=h.dQ c:=by
   intro c hc;apply uT;intro r;obtain⟨f,dj,aS⟩:=r;rw[iC,iC];constructor
   ·rintro⟨cs',t0,fy,c0,q1,q2⟩;rw[Fs c hc]at q1;have YW:=bZ _ _ _ _ _ q1;rw[Fs f YW]at q2;exact⟨cs',t0,fy,c0,q1,q2⟩
   ·rintro⟨cs',t0,fy,c0,q1,q2⟩;have YW:=bZ _ _ _ _ _ q1;exact⟨cs',t0,fy,c0,by rw[Fs c hc];exact q1,by rw[Fs f YW];exact q2⟩
  have YX:h.dQ b=none:=by
   cases hf:h.dQ b with
   |none=>rfl
   |some r=>obtain⟨cs',t,th,q⟩:=eA hf;rw[hg]at q;cases q
  have aaD:(h.put b (.cells (l.map (.int .i64)) b h.size 0)).dQ b=some (b,h.size,0):=bR ql ql;have wm:∀c,c≠b→(h.put b (.cells (l.map (.int .i64)) b h.size 0)).cellsOf c=h.cellsOf c:=fun c hc=>by unfold ah.cellsOf;rw[Fs c hc]
  have gW:∀c,c≠b→(h.put b (.cells (l.map (.int .i64)) b h.size 0)).rd c=h.rd c:=fun c hc=>by unfold ah.rd;rw[oc c hc,wm c hc]
  have hlen:∀c,c≠b→lenOf (h.put b (.cells (l.map (.int .i64)) b h.size 0)) c=lenOf h c:=fun c hc=>by unfold lenOf;rw[wm c hc]
  refine⟨H.g8,fun c hc=>by rw[Fs c (by simp only[ah.size_put]at hc;omega)];exact H.high c hc,fun c mc hc=>?_,H.own,fun b1 b2 m1 m2 h1 h2 hr bC Gu=>?_,fun c mc r hc hr=>?_,H.dN,H.low,H.mF,fun c cs' f t th wz=>?_,fun c mc cs' th hc wz=>?_⟩
  ·by_cases ec:c=b
   ·subst ec;rw[hb]at hc;cases hc;refine⟨_,_,ql,k2,.cells hcn (by simpa using hl) (fun h9=>?_) fun _ i v hv=>?_⟩
    ·have:=aja c OM;omega
    ·rw[List.getElem?_map,Option.map_eq_some_iff]at hv;obtain⟨x,hx,rfl⟩:=hv;exact⟨_,hc i x hx,.int μ _ _⟩
   ·obtain⟨q,q',j1,j2,j3⟩:=H.obj c mc hc;exact⟨q,q',by rw[Fs c ec];exact j1,j2,j3.mono μ.le_refl (by rw[gW c ec];exact id)⟩
  ·obtain⟨r,q1,q2,q3⟩:=H.alias b1 b2 m1 m2 h1 h2 hr bC Gu;have e1:b1≠b:=fun e=>by subst e;rw[YX]at q1;cases q1
   have e2:b2≠b:=fun e=>by subst e;rw[YX]at q2;cases q2
   exact⟨r,by rw[oc b1 e1];exact q1,by rw[oc b2 e2];exact q2,by rw[hlen b1 e1,hlen b2 e2];exact q3⟩
  ·by_cases ec:c=b
   ·subst ec;rw[aaD]at hr;cases hr;exact⟨Nat.le_of_lt OM,Nat.le_refl _,m,hb⟩
   ·rw[oc c ec]at hr;exact H.dQ c mc r hc hr
  ·by_cases ec:c=b
   ·subst ec;rw[ql]at wz;cases wz;exact Nat.le_refl _
   ·rw[Fs c ec]at wz;exact H.wf _ _ _ _ _ wz
  ·by_cases ec:c=b
   ·subst ec;rw[ql]at wz;simp only[Option.some.injEq,eC.cells.injEq]at wz;omega
   ·rw[Fs c ec]at wz;exact H.root _ _ _ _ hc wz
theorem ON {μ:bD} {h:ah} {args args':List Value} (hr:ax μ args args') {b:Nat} {cs:List Int} (hb:vI h args=some (b,cs)):∃m,μ b=some m:=by
 induction hr with
 |nil=>simp[vI]at hb
 |cons hv _ ih=>
  unfold vI at hb;split at hb
  ·cases hb
  ·rename_i b0 o z len cap l' heq;simp only[List.cons.injEq]at heq;obtain⟨rfl,rfl⟩:=heq;split at hb
   ·rename_i cs' hz hg;simp only[Option.some.injEq,Prod.mk.injEq]at hb;obtain⟨rfl,rfl⟩:=hb;cases hv with
    |lit hh=>simp[ay]at hh
    |slice h1=>exact⟨_,h1⟩
    |dr h1=>exact h1 (by rintro rfl;simp at hz)
   ·exact ih hb
  ·rename_i v' l' _ heq;simp only[List.cons.injEq]at heq;obtain⟨_,rfl⟩:=heq;exact ih hb
theorem OO (hE0:bK P E0) (hO:∀base B,kf P E0 base B) (hm:P.follows .mixedOrders=true) (hg:∀g,E0.dN g=true→E.dN g=true) (k:Nat):kA P E base B (Fq E0 k):=by
 intro μ h w g args args' v h' hc hr H F n hF;unfold Fq at hc;simp only[Option.bind_eq_some_iff,aj,Bool.and_eq_true,bc]at hc;obtain⟨⟨b,cs⟩,ae2,⟨bw,NW⟩,out,ae3,px⟩:=hc;obtain⟨m,hb⟩:=ON hr ae2;have eW:=OL ae2;have H2:=H.Fo hg;obtain⟨l,hl,H3⟩:=H2.ae1 (fun _ h=>h) hb eW NW;have ia:=Dl ae3 _ (List.mem_map_of_mem (Dp hl));refine(vH hE0 (hO _ _) hm k μ _ w g args args' _ out ia hr H3 F n hF).mono ?_;rintro e w' ⟨u,u',h1,gz,hK,rfl,hv,S⟩;exact uv (hX:=h.put b (.cells (l.map (.int .i64)) b h.size 0)) H rfl px hK hv S
end
noncomputable def ajb (P:Program) (fs bs ps:List Nat) (n:Nat):FuncId→List Value→ah→Option (Value×ah):=fun g args h=>
 match fs.contains g with
 |true=>Io (jG P mN) n g args h
 |false=>match bs.contains g with
  |true=>Fp (jG P mN) n g args h
  |false=>match ps.contains g with
   |true=>Fq (jG P mN) n g args h
   |false=>none
end Go.M
