/-
  Part 11 of the library that the proof leans on.
-/
import Derived.Test.YthaboieeoopmjaaGreatDoorL4
namespace Go.M
open Go
abbrev Out:=List Value
abbrev KV:=Value→ae→Option Out
abbrev yw:=FuncId→List Value→ae→KV→Option Out
abbrev uM:=Nat→List Value→ae→KV→Option Out
abbrev KC:=Ex→AF→ae→Option Out
def meet:List (Option Out)→Option Out
 |[]=>none
 |x::xs=>x.bind fun o=>bI (xs.all fun y=>match y with|some o'=>kj o o'|none=>false) (some o)
def J5 (h:ae) (r base:Nat) (K:KV):Option Out:=
 bI (Nat.ble base r)<|
 match h.get r with
 |some (.dg none _ _ _)=>K (.tuple #[.bool false]) h
 |some (.dg (some m) since seen last)=>(match h.get m with
  |some (.map es clock)=>
   bI (!(!seen.isEmpty&& !es.isEmpty&&es.all (fun e=>Nat.ble last e.born)))<|
   (match es.filter (fun e=> !seen.contains e.born)with
   |[]=>K (.tuple #[.bool false]) h
   |e::l=>meet ((e::l).map fun e=>bI (Nat.blt e.born since) (K (.tuple #[.bool true,e.key,e.val]) (h.put r (.dg (some m) since (seen++[e.born]) clock)))))
  |_=>none)
 |_=>none
def opK (E:Env) (base:Nat) (cK:yw) (rK:uM) (o:Oper) (f:AF) (h:ae) (K:KV):Option Out:=
 match o.op with
 | .next it false=>(match(ev E f it).bind xf with
  |some r=>J5 h r base K
  |none=>none)
 |_=>
  match aX E f o with
  |some v=>K v h
  |none=>match bW E f o with
   |some q=>(match q.run h with|some v=>K v h|none=>none)
   |none=>match br E f o with
    |some (m,hd)=>K (hd.val h.size) (h.push (m.obj h.size))
    |none=>match dj E base f o h with
     |some (.val v,h')=>K v h'
     |some (.enter g args,h')=>cK g args h' K
     |some (.round l args,h')=>rK l args h' K
     |none=>none
def Pb (E:Env) (base:Nat) (cK:yw) (rK:uM) (ops:List Oper):List Oper→AF→ae→(AF→ae→Option Out)→Option Out
 |[],f,h,K=>K f h
 |o::rest,f,h,K=>
  match wanted ops o f with
  |true=>opK E base cK rK o f h fun v h'=>Pb E base cK rK ops rest (f.put o.dst v) h' K
  |false=>Pb E base cK rK ops rest (f.put o.dst undef) h K
abbrev Pc:=Code→AF→ae→KC→Option Out
def rY (E:Env) (base:Nat) (run:Pc):yw:=fun g args h K=>
 match E.func g with
 |none=>none
 |some fn=>match E.qD base g args h with
  |some r=>K r.1 r.2
  |none=>match fn.body with
   |none=>none
   |some c=>bI (Nat.ble args.length fn.ntmps)<|run c (AF.enter args fn.ntmps) h fun ex f h'=>
    match ex with
    | .exit _=>none
    |_=>match dQ E h' f fn.results.toList with
     |some vs=>K (dR vs) h'
     |none=>none
def tj (base:Nat) (run:Pc):uM:=fun l args h K=>
 bI (Nat.ble base l)<|
 match h.get l with
 |some (.loop .ready _ f ps jl body)=>bI (Nat.beq ps.length args.length&&bl jl&&bl body)<|
  run jl (AF.nA (ps.zip args) f) h fun ex f1 h1=>
   (match ex with
   | .normal=>(match h1.get l with
    |some (.loop .ready p1 f0 GY qE j8)=>
     run body f1 (h1.put l (.loop .busy p1 f0 GY qE j8)) fun Ww _ h2=>
      (match h2.get l with
      |some (.loop _ _ f0 GY qE j8)=>
       (match Ww with
       | .normal=>K (.bool true) (h2.put l (.loop .ready none f0 GY qE j8))
       | .ret=>K (.bool false) (h2.put l (.loop .done (some .ret) f0 GY qE j8))
       | .exit id=>K (.bool false) (h2.put l (.loop .done (some (.exit id)) f0 GY qE j8)))
      |_=>none)
    |_=>none)
   |_=>none)
 |_=>none
noncomputable def dM (E:Env) (base:Nat):Nat→Pc
 |0,_,_,_,_=>none
 |n+1,c,f,h,K=>
  match c with
  | .skip=>K .normal f h
  | .region _ ops draw=>(match draw with
   |false=>Pb E base (rY E base (dM E base n)) (tj base (dM E base n)) ops.toList ops.toList f h fun f' h'=>K .normal f' h'
   |true=>(match kl E base (aV E base n) ops true f h with
    |some (ex,f',h')=>K ex f' h'
    |none=>none))
  | .seq a b=>dM E base n a f h fun ex f' h'=>(match ex with
   | .normal=>dM E base n b f' h' K
   |ex=>K ex f' h')
  | .cond c t e=>(match(ev E f c).bind Nq with
   |some true=>dM E base n t f h K
   |some false=>dM E base n e f h K
   |none=>none)
  | .block id b=>dM E base n b f h fun ex f' h'=>(match ex with
   | .exit ow=>bif Nat.beq ow id then K .normal f' h' else K (.exit ow) f' h'
   |ex=>K ex f' h')
  | .loop b=>dM E base n b f h fun ex f' h'=>(match ex with
   | .normal=>dM E base n (.loop b) f' h' K
   |ex=>K ex f' h')
  | .exit id=>K (.exit id) f h
  | .ret=>K .ret f h
  | .rangeFunc g ps jl body=>(match ev E f g with
   |some (.func (.func g) first captured)=>bI (Nat.ble base h.size)<|
    rY E base (dM E base n) g (first.toList++[.func (.yield h.size) #[] #[]]++captured.toList) (h.push (.loop .ready none f ps.toList jl body)) fun _ h1=>
     (match h1.get h.size with
     |some (.loop st p f0 R4 B6 sy)=>bI (st != .busy) (match p with
      |none=>K .normal f (h1.put h.size (.loop .exhausted p f0 R4 B6 sy))
      |some c=>dM E base n c f (h1.put h.size (.loop .exhausted p f0 R4 B6 sy)) K)
     |_=>none)
   |_=>none)
  |_=>none
noncomputable def J6 (E:Env) (base n:Nat):yw:=rY E base (dM E base n)
section
variable {P:Program} {E:Env} {μ:bt} {f:AF} {a:Act} {base B:Nat} {h:ae} {w:World}
theorem cE.get' {l l':List MapEntry} (hs:cE μ l l'):∀(i:Nat) (e':MapEntry),l'[i]? =some e'→∃e,l[i]? =some e∧ar μ e.key e'.key∧ar μ e.val e'.val∧e.born=e'.born:=by
 induction hs with
 |nil=>intro i e' h;simp at h
 |cons q1 q2 q3 _ ih=>
  intro i e' h;cases i with
  |zero=>simp at h;subst h;exact⟨_,rfl,q1,q2,q3⟩
  |succ i=>simpa using ih i e' (by simpa using h)
theorem Aq (n:Nat) (hn:0<n) (w:World):∃i d,i<n∧(choose (.mapNext n)).run P w= .ok i {w with drawn:=d}:=by
 rw[run_choose];by_cases hf:(Question.mapNext n).forced=true
 ·rw[if_pos hf];exact⟨0,w.drawn,hn,rfl⟩
 ·rw[if_neg hf];exact⟨_,w.drawn+1,Nat.mod_lt _ hn,rfl⟩
theorem Bh {l:List (Option Out)} {o:Out} (h:meet l=some o):∀x∈l,x=some o:=by
 cases l with
 |nil=>intro x hx;simp at hx
 |cons y ys=>
  simp only[meet,Option.bind_eq_some_iff,aj,Option.some.injEq,List.all_eq_true]at h;obtain⟨o',rfl,h2,rfl⟩:=h;intro x hx;rcases List.mem_cons.1 hx with rfl |hx
  ·rfl
  ·have:=h2 x hx;cases x with
   |none=>simp at this
   |some o2=>simp only at this;rw[sN this]
theorem LK (H:bq E base B μ h w) {r:Nat} {m:MT} {K:KV} {out:Out} (ty:TypeId) (hk:J5 h r base K=some out) (hb:μ r=some m):
 ∃v h' v' w',K v h'=some out∧(Instr.next (.pointer (some ⟨m.r,0,none⟩)) false ty).run P w= .ok v' w'∧ar μ v v'∧Step E base B μ h w μ h' w':=by
 unfold J5 at hk;simp only[aj,aT]at hk;obtain⟨bA,hk⟩:=hk;obtain⟨o1,o2,k1,k2,k3⟩:=H.obj r m hb;split at hk
 ·rename_i since seen last hg;rw[hg]at k1;cases k1;cases k3 with
  |mn gG=>
   have p8:=run_getObj_map (P:=P) k2 (fun _ _ _=>by simp);refine⟨_,_,_,w,hk,?_,.dG (by simpa using ay.cons (.bool μ false) .nil),.refl H⟩;unfold Instr.next;simp only[Sem.run_bind,p8,Result.andThen_ok];rfl
 ·rename_i mm since seen last hg;rw[hg]at k1;cases k1;cases k3 with
  |dg WL gG=>
   rename_i mk;have p8:=run_getObj_map (P:=P) k2 (fun _ _ _=>by simp);split at hk
   ·rename_i es clock NP;obtain⟨p1,p2,j1,j2,j3⟩:=H.obj mm mk WL;rw[NP]at j1;cases j1;cases j3 with
    |map hs=>
     rename_i bM;have Hs:=run_getObj_map (P:=P) j2 (fun _ _ _=>by simp);simp only[aj]at hk;obtain⟨lT,hk⟩:=hk;have hlen:=hs.length;have VI:bM.isEmpty=es.isEmpty:=by
      cases es<;>cases h9:bM.toList<;>rw[h9]at hlen<;>simp at hlen
      ·have:bM= #[]:=by apply Array.ext';simp[h9]
       simp[this]
      ·have:bM.size≠0:=by have:=congrArg List.length h9;simp at this;omega
       simp[Array.isEmpty,this]
     have gJ:(bM.all fun e=>decide (e.born≥last))=es.all (fun e=>Nat.ble last e.born):=by
      rw[←Array.all_toList,←hs.Eh (fun n=>decide (n≥last))]
      congr 1
      funext e
      rw[Bool.eq_iff_iff,aT];simp
     have Ei:(!seen.toArray.isEmpty&& !bM.isEmpty&&bM.all fun e=>decide (e.born≥last))=false:=by
      rw[VI,gJ];have:seen.toArray.isEmpty=seen.isEmpty:=by cases seen<;>simp
      rw[this];simpa only[Bool.not_eq_true']using lT
     have qI:=hs.filter (fun n=> !seen.contains n);have AE:(bM.filter fun e=> !seen.toArray.contains e.born).toList=bM.toList.filter (fun e=> !seen.contains e.born):=by
      simp
     generalize hL:(bM.filter fun e=> !seen.toArray.contains e.born)=left at AE;split at hk
     ·rename_i hf;rw[hf]at qI;have ue:left= #[]:=by
       apply Array.ext';rw[AE];cases xr:bM.toList.filter (fun e=> !seen.contains e.born)with
       |nil=>rfl
       |cons x y=>rw[xr]at qI;cases qI
      refine⟨_,_,_,w,hk,?_,.dG (by simpa using ay.cons (.bool μ false) .nil),.refl H⟩;unfold Instr.next;simp only[Sem.run_bind,p8,Hs,Result.andThen_ok,Ei,Bool.false_eq_true,if_false,hL,ue];simp[Question.forced]
     ·rename_i e0 l0 hf;rw[←hf]at hk;rw[←AE]at qI;have Si:=Bh hk;have hk:∀e∈es.filter (fun e=> !seen.contains e.born),e.born<since∧K (.tuple #[.bool true,e.key,e.val]) (h.put r (.dg (some mm) since (seen++[e.born]) clock))=some out:=fun e he=>by
       have:=Si _ (List.mem_map_of_mem he);simp only[aj,a7]at this;exact this
      have fO:0<left.size:=by
       have:=qI.length;rw[hf]at this;simp at this;omega
      have hold:∀x∈left,x.born<since:=by
       intro x hx;obtain⟨i,hi⟩:=List.mem_iff_getElem?.1 (by simpa using hx:x∈left.toList);obtain⟨e,h1,_,_,h4⟩:=qI.get' i x hi;rw[←h4];exact(hk e (List.mem_of_getElem? h1)).1
      have f1:(left.filter fun x=>decide (x.born<since))=left:=by
       apply Array.filter_eq_self.2;intro x hx;simpa using hold x hx
      have f2:(left.filter fun x=>decide (x.born≥since))= #[]:=by
       apply Array.filter_eq_empty_iff.2;intro x hx;have:=hold x hx;simp;omega
      have f3:left.isEmpty=false:=by
       cases hle:left.isEmpty with
       |false=>rfl
       |true=>
        have:left= #[]:=by simpa using hle
        rw[this]at fO;simp at fO
      obtain⟨i,d,hi,hch⟩:=Aq (P:=P) left.size fO w;have hgi:=Array.getElem?_eq_getElem hi;obtain⟨e,h1,h2,h3,h4⟩:=qI.get' i left[i] (by rw[Array.getElem?_toList];exact hgi);obtain⟨hbe,hKe⟩:=hk e (List.mem_of_getElem? h1);have Hd:=H.congr (w':={w with drawn:=d}) rfl;have NN:=fun o=>cG (P:=P) (w:={w with drawn:=d}) (o:=o) k2 (fun _ _ _=>by simp);have st:=Step.put (o:=.dg (some mm) since (seen++[e.born]) clock) Hd hb bA hg rfl rfl (Cb.set {w with drawn:=d} m.r (.mapIter (some mk.r) since (seen.toArray.push left[i].born) clock) (Hd.lt hb)) (by
       have:=il.dg (μ:=μ) (h:=h.put r (.dg (some mm) since (seen++[e.born]) clock)) (base:=base) (b:=r) (m:=m) (since:=since) (last:=clock) (seen:=seen++[e.born]) WL gG;rw[h4]at this ⊢;simpa using this)
      refine⟨_,_,_,_,hKe,?_,.dG (by simpa using ay.cons (.bool μ true) (.cons h2 (.cons h3 .nil))),(Step.drawn H d).trans st⟩;unfold Instr.next;simp only[Sem.run_bind,p8,Hs,Result.andThen_ok,Ei,Bool.false_eq_true,if_false,hL,f1,f2,f3];have f4:(#[]++(left++ #[]).map some:Array (Option MapEntry))=left.map some:=by simp
      rw[f4];simp only[Array.size_map,hch,Result.andThen_ok,Array.getElem?_map,hgi,Option.map_some,Sem.run_bind,NN,Sem.run_pure]
   ·cases hk
 ·cases hk
end
def S8 (E:Env) (base B:Nat) (μ:bt) (h:ae) (w:World) (K:KV) (out:Out):Ending→World→Prop:=
 fun e w'=>∃v v' h' a6,K v h'=some out∧e= .returned v'∧ar a6 v v'∧Step E base B μ h w a6 h' w'
def wX (P:Program) (E:Env) (base B:Nat) (cK:yw):Prop:=
 ∀(μ:bt) (h:ae) (w:World) (g:FuncId) (args:List Value) (args':Array Value) (K:KV) (out:Out),cK g args h K=some out→ay μ args args'.toList→bq E base B μ h w→
  ∀(F:Fence) (n:Nat),gE F→CallsIn F n P g args' w (S8 E base B μ h w K out)
def yx (P:Program) (E:Env) (base B:Nat) (rK:uM):Prop:=
 ∀(μ:bt) (h:ae) (w:World) (l:Nat) (args:List Value) (K:KV) (out:Out) (m:MT) (f0:AF) (ps:List Tmp) (jl body:Code) (st:LoopState) (p:Option Code) (fn:FuncId) (tmps:Array Value),
  rK l args h K=some out→h.get l=some (.loop st p f0 ps jl body)→μ l=some m→bq E base B μ h w→c9 μ (AF.nA (ps.zip args) f0) tmps→
  ∀(F:Fence) (n:Nat),gE F→RoundIn F n P m.r fn tmps jl body w (S8 E base B μ h w K out)
def yz (E:Env) (cK:yw):Prop:=∀g args h K out,cK g args h K=some out→(E.func g).isSome=true
def uN (rK:uM):Prop:=∀l args h K out,rK l args h K=some out→∃st p f0 ps jl body,h.get l=some (.loop st p f0 ps jl body)∧ps.length=args.length
section
variable {P:Program} {E:Env} {μ:bt} {f:AF} {a:Act} {base B:Nat} {h:ae} {w:World} {cK:yw} {rK:uM}
theorem Pd {o:Oper} {K:KV} {out:Out} {k:ae} (h:opK E base cK rK o f k K=some out):∀c,o.op≠ .defer c:=by
 intro c hc;unfold opK at h;simp only[aX,bW,br,dj,hc]at h;cases h
theorem S9 (hE:bB P E) (sm:wX P E base B cK) (Cs:yx P E base B rK) (Ct:yz E cK) (Cu:uN rK) {F:Fence} (hF:gE F) {n:Nat} (hf:c9 μ f a.tmps) (H:bq E base B μ h w) {o:Oper} {K:KV} {out:Out} (hr:opK E base cK rK o f h K=some out)
 {next:Act→World→Prop} {Q:Exit→Act→World→Prop} (hn:∀a6 v v' h' w',K v h'=some out→ar a6 v v'→Step E base B μ h w a6 h' w'→next (a.put o.dst v') w'):o.wpIn F n P a w next Q:=by
 have hg:gD E μ:=H.de;refine⟨fun _ _=>hF.fn _,?_⟩;rw[Oper.semAt_eq _ _ _ (Pd hr)];unfold opK at hr;split at hr
 ·rename_i it ju;split at hr
  ·rename_i r hit;simp only[Option.bind_eq_some_iff]at hit;obtain⟨v1,h1,h2⟩:=hit;have e:=o7 h2;subst e;obtain⟨m,hb,ex⟩:=(bn hg hf h1).iy;have gG:m.s=0:=by
    obtain⟨o1,o2,k1,k2,k3⟩:=H.obj r m hb;unfold J5 at hr;simp only[aj]at hr;have Nd:=hr.2;cases k3 with
    |iR hs=>exact hs
    |mn hs=>exact hs
    |dg _ hs=>exact hs
    |_=>rw[k1]at Nd;simp at Nd
   obtain⟨v,h',v',w',q0,q1,q2,q3⟩:=LK (P:=P) H o.type hr hb;rw[gG]at ex;have he:(execOp a.eval o).run P w= .ok (.value v') w':=by
    unfold execOp;rw[ju];simp only[ex,Nat.add_zero,Sem.run_bind];rw[q1];simp
   rw[he];exact hn μ v v' h' w' q0 q2 q3
  ·cases hr
 ·split at hr
  ·rename_i v hp;obtain⟨v',q1,q2⟩:=p7 hE hg hf hp;rw[q2 w];exact hn μ _ v' _ w hr q1 (.refl H)
  ·split at hr
   ·rename_i q hq;split at hr
    ·rename_i v hv;obtain⟨v',q1,q2⟩:=uh hE hf H hq hv;rw[q2];exact hn μ _ v' _ w hr q1 (.refl H)
    ·cases hr
   ·split at hr
    ·rename_i md hd eF;obtain⟨o',k,hv,S⟩:=nG hE hg hf eF;rw[S.run w];have st:=Step.alloc (o:=md.obj h.size) H (D7.mk' w o') k (fun cs f c8 ba hh=>by cases md<;>simp[Made.obj]at hh;exact⟨hh.2.1.symm,hh.2.2.1.symm⟩) (S.obj _ _ _ _ _ (fF H.fresh));exact hn _ _ _ _ _ hr (S.val _ _ _ (bx _ _ _)) st
    ·split at hr
     ·rename_i v h' he;obtain⟨a6,nx,v',w',q1,q2,q3,q4⟩:=xu hE hf H he;rw[q1];rcases q2 with rfl |⟨rfl,rfl⟩
      ·exact hn a6 _ v' _ w' hr q3 q4
      ·exact hn a6 _ undef _ w' hr q3 q4
     ·rename_i g args h' he;have xw:=Ct _ _ _ _ _ hr;obtain⟨args',e,q1,q2⟩:=rH hE hf H he xw;subst e;rw[q2];refine⟨hF.ok n,(sm μ h' w g args args' K out hr q1 H F (n - 1) hF).mono ?_⟩;rintro e w' ⟨v,v',h2,a6,k0,rfl,k1,k2⟩;exact hn a6 v v' h2 w' k0 k1 k2
     ·rename_i l args h' he;obtain⟨st,p,f0,ps,jl,body,hl,hlen⟩:=Cu _ _ _ _ _ hr;have hh:h'=h:=by
       obtain⟨dst,op,type,pos,after,guard⟩:=o;cases op<;>simp only[dj]at he<;>first|cases he|skip
       all_goals simp only[Option.bind_eq_some_iff,Option.some.injEq,Prod.mk.injEq,aj,reduceCtorEq,false_and,and_false,exists_false]at he
       ·obtain⟨_,_,_,_,he⟩:=he;split at he
        ·split at he<;>simp at he
        ·cases he
       ·obtain⟨_,_,he⟩:=he;split at he
        ·first|(simp at he;done)|(obtain⟨_,_,he⟩:=he;simp at he;done)|(simp only[Option.bind_eq_some_iff]at he;obtain⟨_,_,he⟩:=he;cases he)
        ·try simp only[Option.bind_eq_some_iff]at he
         obtain⟨_,_,he⟩:=he;split at he
         ·simp at he
         ·simp only[Option.some.injEq,Prod.mk.injEq]at he;exact he.2.symm
         ·cases he
        ·cases he
      subst hh;obtain⟨m,args',lo,_,hb,hw,q1,q2,q3⟩:=rJ (P:=P) hf H he hl hlen;rw[q2];refine⟨hF.ok n,(Cs μ h' w l args K out m f0 ps jl body st p lo.fn _ hr hl hb H (nL q3 q1) F (n - 1) hF).mono ?_⟩;rintro e w' ⟨v,v',h2,a6,k0,rfl,k1,k2⟩;exact hn a6 v v' h2 w' k0 k1 k2
     ·cases hr
theorem yA (hE:bB P E) (sm:wX P E base B cK) (Cs:yx P E base B rK) (Ct:yz E cK) (Cu:uN rK) {F:Fence} (hF:gE F) {n:Nat} {ops:Array Oper} {Q:Exit→Act→World→Prop} {K:AF→ae→Option Out} {out:Out}:∀(rest:List Oper) (k:Nat) (μ:bt) (f:AF) (h:ae) (a:Act) (w:World),
 (∀j,rest[j]? =ops[k+j]?)→Pb E base cK rK ops.toList rest f h K=some out→c9 μ f a.tmps→bq E base B μ h w→
 (∀f' h' a6 a' w',K f' h'=some out→c9 a6 f' a'.tmps→a'.defers=a.defers→Step E base B μ h w a6 h' w'→Q .normal a' w')→wpOpsIn F n P ops Q (List.range' k rest.length) a w
 |[],k,μ,f,h,a,w,_,ha,hf,H,hQ=>hQ _ _ μ a w ha hf rfl (.refl H)
 |o::rest,k,μ,f,h,a,w,hk,ha,hf,H,hQ=>by
  have h0:ops[k]? =some o:=by simpa using(hk 0).symm
  have o8:∀j,rest[j]? =ops[k+1+j]? :=fun j=>by have:=hk (j+1);simpa[Nat.add_assoc,Nat.add_comm 1 j]using this
  simp only[List.length_cons,List.range'_succ,wpOpsIn,h0,rL hf];simp only[Pb]at ha;split at ha
  ·rename_i hw;rw[if_pos hw];refine S9 hE sm Cs Ct Cu hF hf H ha fun a6 v v' h' w' q0 q1 q2=>?_;refine yA hE sm Cs Ct Cu hF rest (k+1) a6 (f.put o.dst v) h' _ w' o8 q0 ((hf.mono q2.le).put q1 o.dst) q2.rel fun f2 h2 vg a2 w2 p0 p1 p2 p3=>?_;exact hQ f2 h2 vg a2 w2 p0 p1 (by rw[p2];cases o.dst<;>rfl) (q2.trans p3)
  ·rename_i hw;rw[if_neg (by rw[hw];simp)];refine⟨fun _ _=>hF.fn _,?_⟩;refine yA hE sm Cs Ct Cu hF rest (k+1) μ (f.put o.dst undef) h _ w o8 ha (hf.put (.undef μ) o.dst) H fun f2 h2 vg a2 w2 p0 p1 p2 p3=>?_;exact hQ f2 h2 vg a2 w2 p0 p1 (by rw[p2];cases o.dst<;>rfl) p3
def Dd (P:Program) (E:Env) (base B k:Nat):Prop:=
 ∀(c:Code) (f:AF) (h:ae) (K:KC) (out:Out),dM E base k c f h K=some out→
  ∀(μ:bt) (a:Act) (w:World) (W0:Nat) (rs:List Nat),c9 μ f a.tmps→bq E base B μ h w→bU W0 μ w a.defers rs→W0≤w.heap.size→
  ∀(F:Fence) (n:Nat) (Q:Exit→Act→World→Prop),gE F→(F.round=none∨bl c=true)→
  (∀ex f' h' a6 a' w' Ek,K ex f' h'=some out→c9 a6 f' a'.tmps→bU W0 a6 w' a'.defers Ek→Step E base B μ h w a6 h' w'→Q (o9 ex) a' w')→c.wpIn F n P Q a w
theorem Fj (run:Pc):yz E (rY E base run):=by
 intro g args h K out hr;unfold rY at hr;split at hr
 ·cases hr
 ·rename_i fn Zk;rw[Zk];rfl
theorem LL (run:Pc):uN (tj base run):=by
 intro l args h K out hr;unfold tj at hr;simp only[aj]at hr;obtain⟨_,hr⟩:=hr;split at hr
 ·rename_i p f ps jl body hg;simp only[aj,Bool.and_eq_true,beq_iff]at hr;exact⟨_,_,_,_,_,_,hg,hr.1.1.1⟩
 ·cases hr
theorem J7 (hE:bB P E) (hO:gL P E base B) {k:Nat} (hk:Dd P E base B k):wX P E base B (rY E base (dM E base k)):=by
 intro μ h w g args args' K out hc hr H F n hF;unfold rY at hc;split at hc
 ·cases hc
 rename_i fn h1;split at hc
 ·rename_i r ho;refine(hO μ h w g args args' r.1 r.2 ho hr H F n hF).mono ?_;rintro e w' ⟨v',a6,rfl,k1,k2⟩;exact⟨_,v',_,a6,hc,rfl,k1,k2⟩
 ·split at hc
  ·cases hc
  rename_i c h2;simp only[aj,aT]at hc;obtain⟨hn,hc⟩:=hc;obtain⟨f1,f2,f3⟩:=hE.func _ _ h1;have fin:CallsIn F.plain n P g args' w (S8 E base B μ h w K out):=by
   refine callsIn_of_wp_marks f1 h2 (hF.fn _) ?_ rfl;refine hk c _ h _ out hc μ _ w w.heap.size [] (AG hr hn) H .nil (Nat.le_refl _) F.plain n _ hF.plain (.inl rfl) ?_;intro ex fe he a6 a' w' Ek q0 q1 q2 q3
   have lv:∀vs,dQ E he fe fn.results.toList=some vs→K (dR vs) he=some out→LeavesInM F.plain n P fn a'.tmps (S8 E base B μ h w K out) a'.defers .returning w':=fun vs h3 h4=>
    nM a'.defers Ek w' q2 q3 fun w2 s2=>by
     obtain⟨v',p1,p2⟩:=vp (P:=P) hE q1 s2.rel h3;exact⟨v',p1,_,v',_,a6,h4,rfl,p2,s2⟩
   cases ex with
   |exit id=>simp at q0
   |normal=>
    simp only at q0;split at q0
    ·rename_i vs h3;exact lv vs h3 q0
    ·cases q0
   |ret=>
    simp only at q0;split at q0
    ·rename_i vs h3;exact lv vs h3 q0
    ·cases q0
  exact fin
end
section
variable {P:Program} {E:Env} {base B:Nat}
theorem Pe {k:Nat} (hk:Dd P E base B k):yx P E base B (tj base (dM E base k)):=by
 intro μ h w l args K out m f0 ps jl body st p fn tmps hr hl hb H hf F n hF;unfold tj at hr;simp only[aj,aT]at hr;obtain⟨bA,hr⟩:=hr;rw[hl]at hr;cases st with
 |ready=>
  simp only[aj,Bool.and_eq_true,beq_iff]at hr;obtain⟨⟨⟨hlen,AH⟩,oO⟩,hr⟩:=hr;refine roundIn_of_wpIn (hF.fn _) ?_;refine hk jl _ h _ out hr μ _ w w.heap.size [] hf H .nil (Nat.le_refl _) (F.inRound m.r) n _ (hF.inRound _) (.inr AH) ?_;intro ex1 f1 h1 gd a1 w1 sI q0 q1 q2 s1;cases ex1 with
  |exit id=>simp at q0
  |ret=>simp at q0
  |normal=>
   simp only at q0;split at q0
   ·rename_i p1 f01 GY qE j8 uk;have ny:=s1.le _ _ hb;obtain⟨Zo,e1,e2,e3,s2⟩:=mT s1.rel ny bA uk .busy p1;have VM:Step E base B gd h1 w1 gd (h1.put l (.loop .busy p1 f01 GY qE j8)) {w1 with heap:=w1.heap.setIfInBounds m.r (.loop {Zo with state:=.busy})}:=by
     rw[←e3]at s2 ⊢;exact s2
    refine⟨{w1 with heap:=w1.heap.setIfInBounds m.r (.loop {Zo with state:=.busy})},?_,?_⟩
    ·unfold Instr.beginRound;simp only[Sem.run_bind,run_getLoop (P:=P) e1,Result.andThen_ok,cG (P:=P) e1 (fun _ _ _=>by simp),e2,Sem.run_pure]
    refine hk body f1 _ _ out q0 gd a1 _ w.heap.size sI q1 VM.rel (q2.step VM) (by rw[Array.size_setIfInBounds];exact s1.grow.size) (F.inRound m.r) n _ (hF.inRound _) (.inr oO) ?_;intro ex f2 h2 wo a3 w3 rs3 q0 q3 q4 s3;have nN:=(s1.trans VM);have Nc:=s3.le _ _ ny;split at q0
    ·rename_i st2 p2 f02 ps2 VK NT Rr;have key:∀(Jz:LoopState) (jump:Option Code),(jump.isNone=true→Jz= .ready)→(jump.isNone=false→Jz= .done)→∃w4,(Instr.endRound m.r jump).run P w3= .ok (.bool jump.isNone) w4∧Step E base B wo h2 w3 wo (h2.put l (.loop Jz jump f02 ps2 VK NT)) w4:=by
      intro Jz jump hj1 UK;obtain⟨Sg,d1,d2,d3,s4⟩:=mT s3.rel Nc bA Rr Jz jump;refine⟨_,?_,s4⟩;unfold Instr.endRound;simp only[Sem.run_bind,run_getLoop (P:=P) d1,Result.andThen_ok,cG (P:=P) d1 (fun _ _ _=>by simp),Sem.run_pure];cases hj:jump.isNone with
      |true=>rw[hj1 hj];simp
      |false=>rw[UK hj];simp
     cases ex with
     |normal=>
      obtain⟨w4,k1,k2⟩:=key .ready none (fun _=>rfl) (fun h=>by simp at h);exact⟨_,w4,k1,_,_,_,wo,q0,rfl,.bool _ _,(nN.trans s3).trans k2⟩
     |ret=>
      obtain⟨w4,k1,k2⟩:=key .done (some .ret) (fun h=>by simp at h) (fun _=>rfl);exact⟨_,w4,k1,_,_,_,wo,q0,rfl,.bool _ _,(nN.trans s3).trans k2⟩
     |exit id=>
      obtain⟨w4,k1,k2⟩:=key .done (some (.exit id)) (fun h=>by simp at h) (fun _=>rfl);exact⟨_,w4,k1,_,_,_,wo,q0,rfl,.bool _ _,(nN.trans s3).trans k2⟩
    ·cases q0
   ·cases q0
 |busy=>cases hr
 |done=>cases hr
 |exhausted=>cases hr
theorem Ta (hE:bB P E) (hO:gL P E base B) (hD:Cw P E base B):∀k,Dd P E base B k∧
 (∀(b:Code) (f:AF) (h:ae) (K:KC) (out:Out),dM E base k (.loop b) f h K=some out→
  ∀(μ:bt) (a:Act) (w:World) (W0:Nat) (rs:List Nat),c9 μ f a.tmps→bq E base B μ h w→bU W0 μ w a.defers rs→W0≤w.heap.size→
  ∀(F:Fence) (n:Nat) (Q:Exit→Act→World→Prop),gE F→(F.round=none∨bl b=true)→
  (∀ex f' h' a6 a' w' Ek,K ex f' h'=some out→c9 a6 f' a'.tmps→bU W0 a6 w' a'.defers Ek→Step E base B μ h w a6 h' w'→Q (o9 ex) a' w')→Code.roundsIn F n P b Q k a w):=by
 intro k
 induction k with
 |zero=>exact⟨fun c f h K out hr=>by simp[dM]at hr,fun b f h K out hr=>by simp[dM]at hr⟩
 |succ k ih=>
  obtain⟨hk,NU⟩:=ih;have sJ:=J7 hE hO hk;have Cz:=Pe hk
  have Em:∀(b:Code) (f:AF) (h:ae) (K:KC) (out:Out),dM E base (k+1) (.loop b) f h K=some out→
   ∀(μ:bt) (a:Act) (w:World) (W0:Nat) (rs:List Nat),c9 μ f a.tmps→bq E base B μ h w→bU W0 μ w a.defers rs→W0≤w.heap.size→
   ∀(F:Fence) (n:Nat) (Q:Exit→Act→World→Prop),gE F→(F.round=none∨bl b=true)→
   (∀ex f' h' a6 a' w' Ek,K ex f' h'=some out→c9 a6 f' a'.tmps→bU W0 a6 w' a'.defers Ek→Step E base B μ h w a6 h' w'→Q (o9 ex) a' w')→Code.roundsIn F n P b Q (k+1) a w:=by
   intro b f h K out hr μ a w W0 rs hf H hm hW F n Q hF mw hQ;simp only[dM]at hr;rw[roundsIn_succ];refine hk b f h _ out hr μ a w W0 rs hf H hm hW F n _ hF mw fun ex f1 h1 gd a1 w1 sI q0 q1 q2 s1=>?_;cases ex with
   |normal=>exact NU b f1 h1 K out q0 gd a1 w1 W0 sI q1 s1.rel q2 (Nat.le_trans hW s1.grow.size) F n Q hF mw fun ex f2 h2 vg a2 w2 VO p0 p1 p2 s2=>hQ ex f2 h2 vg a2 w2 VO p0 p1 p2 (s1.trans s2)
   |exit id=>exact hQ _ f1 h1 gd a1 w1 sI q0 q1 q2 s1
   |ret=>exact hQ _ f1 h1 gd a1 w1 sI q0 q1 q2 s1
  refine⟨?_,Em⟩;intro c f h K out hr μ a w W0 rs hf H hm hW F n Q hF mw hQ;cases c with
  |skip=>exact wpIn_skip (hQ .normal f h μ a w rs (by simpa[dM]using hr) hf hm (.refl H))
  |exit id=>exact wpIn_exit (hQ (.exit id) f h μ a w rs (by simpa[dM]using hr) hf hm (.refl H))
  |ret=>exact wpIn_ret (hQ .ret f h μ a w rs (by simpa[dM]using hr) hf hm (.refl H))
  |seq x y=>
   simp only[dM]at hr;have hx:F.round=none∨bl x=true:=mw.imp (fun h=>h) fun h=>by simp[bl]at h;exact h.1
   have hy:F.round=none∨bl y=true:=mw.imp (fun h=>h) fun h=>by simp[bl]at h;exact h.2
   refine wpIn_seq ?_;refine hk x f h _ out hr μ a w W0 rs hf H hm hW F n _ hF hx fun ex f1 h1 gd a1 w1 sI q0 q1 q2 s1=>?_;cases ex with
   |normal=>exact hk y f1 h1 K out q0 gd a1 w1 W0 sI q1 s1.rel q2 (Nat.le_trans hW s1.grow.size) F n Q hF hy fun ex f2 h2 vg a2 w2 VO p0 p1 p2 s2=>hQ ex f2 h2 vg a2 w2 VO p0 p1 p2 (s1.trans s2)
   |exit id=>exact hQ _ f1 h1 gd a1 w1 sI q0 q1 q2 s1
   |ret=>exact hQ _ f1 h1 gd a1 w1 sI q0 q1 q2 s1
  |cond cx x y=>
   simp only[dM]at hr;have hx:F.round=none∨bl x=true:=mw.imp (fun h=>h) fun h=>by simp[bl]at h;exact h.1
   have hy:F.round=none∨bl y=true:=mw.imp (fun h=>h) fun h=>by simp[bl]at h;exact h.2
   cases hb:(ev E f cx).bind Nq with
   |none=>rw[hb]at hr;cases hr
   |some b=>
    simp only[Option.bind_eq_some_iff]at hb;obtain⟨v,h1,h2⟩:=hb;have hb:(ev E f cx).bind Nq=some b:=by simp[h1,h2]
    rw[hb]at hr;have e:=xo h2;subst e;have hc:=(bn H.de hf h1).ax rfl;cases b with
    |true=>exact wpIn_cond_true hc (hk x f h K out hr μ a w W0 rs hf H hm hW F n Q hF hx hQ)
    |false=>exact wpIn_cond_false hc (hk y f h K out hr μ a w W0 rs hf H hm hW F n Q hF hy hQ)
  |block id b=>
   simp only[dM]at hr;have cp:F.round=none∨bl b=true:=mw.imp (fun h=>h) fun h=>by simpa[bl]using h
   refine wpIn_block ?_;refine hk b f h _ out hr μ a w W0 rs hf H hm hW F n _ hF cp fun ex f1 h1 gd a1 w1 sI q0 q1 q2 s1=>?_;cases ex with
   |normal=>exact hQ _ f1 h1 gd a1 w1 sI q0 q1 q2 s1
   |ret=>exact hQ _ f1 h1 gd a1 w1 sI q0 q1 q2 s1
   |exit ow=>
    simp only[bT]at q0;show(if ow=id then Q .normal a1 w1 else Q (.exit ow) a1 w1);by_cases e:ow=id
    ·rw[if_pos (beq_iff.2 e)]at q0;rw[if_pos e];exact hQ _ f1 h1 gd a1 w1 sI q0 q1 q2 s1
    ·rw[if_neg (fun hh=>e (beq_iff.1 hh))]at q0;rw[if_neg e];exact hQ _ f1 h1 gd a1 w1 sI q0 q1 q2 s1
  |loop b=>
   exact wpIn_loop_rounds (k+1) (Em b f h K out hr μ a w W0 rs hf H hm hW F n Q hF (mw.imp (fun h=>h) fun h=>by simpa[bl]using h) hQ)
  |region id ops draw=>
   simp only[dM]at hr;cases draw with
   |false=>
    refine wpIn_region ?_;have:=yA hE sJ Cz (Fj _) (LL _) hF (n:=n) (ops:=ops) (Q:=Q) ops.toList 0 μ f h a w (fun j=>by simp) hr hf H fun f' h' gd a1 w1 q0 q1 q2 s1=>hQ _ f' h' gd a1 w1 rs q0 q1 (by rw[q2];exact hm.step s1) s1;rw[List.range_eq_range',←Array.length_toList];exact this
   |true=>
    simp only at hr;split at hr
    ·rename_i ex f' h' adI;have aas:aV E base (k+1) (.region id ops true) f h=some (ex,f',h'):=by simpa only[aV]using adI
     exact(codeOk hE hO hD (k+1)).1 _ f h ex f' h' aas μ a w W0 rs hf H hm hW F n Q hF mw fun a6 a' w' Ek q1 q2 s1=>hQ ex f' h' a6 a' w' Ek hr q1 q2 s1
    ·cases hr
  |rangeFunc g ps jl body=>
   have UL:F.round=none:=mw.resolve_right (by simp[bl]);simp only[dM]at hr;split at hr
   ·rename_i gid first captured h1
    simp only[aj,aT]at hr;obtain⟨bA,hc⟩:=hr;have vo:=bn H.de hf h1;generalize hq:a.eval g=q at vo;cases vo with
    |lit hh=>simp[az]at hh
    |func t1 t2 t3 t4=>
     rename_i rI iV;refine wpIn_rangeFunc fun fn _=>?_
     let wA:World:={w with heap:=w.heap.push (.deferred (some []))}
     let lo:Loop:={state:=.ready,pending:=none,fn:=fn,tmps:=a.tmps,params:=ps,assign:=jl,body:=body,defers:=w.heap.size}
     let wB:World:={wA with heap:=wA.heap.push (.loop lo)}
     have sA:Step E base B μ h w μ h wA:=Step.Zm H (D7.mk' w _);have acH:wA.heap.size=w.heap.size+1:=by simp[wA]
     have sB:=Step.alloc (o:=.loop .ready none f ps.toList jl body) sA.rel (D7.mk' wA (.loop lo)) 0 (fun _ _ _ _ hh=>by cases hh) (by
      have:=il.loop (μ:=jH μ h.size ⟨wA.heap.size,0,0⟩) (h:=h.push (.loop .ready none f ps.toList jl body)) (base:=base) (b:=h.size) (m:=⟨wA.heap.size,0,0⟩) (st:=.ready) (p:=none) (ps:=ps.toList) (jl:=jl) (body:=body) (fn:=fn) (d:=w.heap.size) (hf.mono (fF H.fresh));simpa using this)
     let mk:Deferred:={target:=.collected w.heap.size,args:= #[]}
     have Yx:um W0 μ wA mk w.heap.size:=⟨rfl,by simp[wA],fun b m hb he=>by have:=H.lt hb;omega,hW⟩;have Sd:w.heap.size∉rs:=by
      have:∀{ds:List Deferred} {rs:List Nat},bU W0 μ w ds rs→∀r∈rs,r<w.heap.size:=by
       intro ds rs k
       induction k with
       |nil=>intro r hr;simp at hr
       |cons h1 _ _ ih=>intro r hr;rcases List.mem_cons.1 hr with rfl |hr
                        ·exact(Array.getElem?_eq_some_iff.1 h1.obj).1
                        ·exact ih r hr
      intro oI;have:=this hm _ oI;omega
     have hmarks:bU W0 μ wA (mk::a.defers) (w.heap.size::rs):=.cons Yx Sd (hm.step sA)
     let args':Array Value:=rI++ #[.func (.yield wA.heap.size) #[] #[]]++iV
     have xw:=Fj (E:=E) _ _ _ _ _ _ hc;obtain⟨Zp,VQ⟩:=Option.isSome_iff_exists.1 xw;obtain⟨g1,g2,g3⟩:=hE.func _ _ VQ;have hbn:Zp.body.isNone=false:=by cases hx:Zp.body<;>simp_all
     have iT:ay (jH μ h.size ⟨wA.heap.size,0,0⟩) (first.toList++[.func (.yield h.size) #[] #[]]++captured.toList) args'.toList:=by
      have hle:μ.le (jH μ h.size ⟨wA.heap.size,0,0⟩):=fF H.fresh;have v1:=(ay.nD t1 t2).mono hle;have v3:=(ay.nD t3 t4).mono hle;have v2:=ay.cons (ar.yield (bx μ h.size ⟨wA.heap.size,0,0⟩)) .nil;simpa[args']using(v1.append v2).append v3
     refine⟨wA.heap.size,[mk],wB,{target:=.fn (.func gid) iV,args:=rI++ #[.func (.yield wA.heap.size) #[] #[]]},wB,gid,args',wB,?_,?_,fun _ _=>hF.fn _,?_,hF.ok n,?_⟩
     ·rw[UL];unfold Instr.enterLoop;simp only[Sem.run_bind,run_newObj,Result.andThen_ok,Sem.run_pure];rfl
     ·have VS:∀v:Value,a.eval (.const v)=v:=fun _=>rfl;simp[resolve,hq,Deferred.ofValue,Sem.run_pure,VS]
     ·simp only[invoke,callFunc,Sem.run_bind,run_program,Result.andThen_ok,g1,g3,hbn,Bool.false_eq_true,if_false,Sem.run_pure];rfl
     ·refine(sJ _ _ wB gid _ args' _ out hc iT sB.rel F (n - 1) hF).mono ?_;rintro e w3 ⟨rv,v',h2,wo,q0,rfl,k1,s3⟩;have Nc:wo h.size=some ⟨wA.heap.size,0,0⟩:=s3.le _ _ (bx _ _ _);simp only at q0;split at q0
      ·rename_i st p f0 R4 B6 sy hl;simp only[aj]at q0;obtain⟨bN,q0⟩:=q0;obtain⟨Sg,d1,d2,d3,s4⟩:=mT s3.rel Nc bA hl .exhausted p;have VT:Step E base B wo h2 w3 wo (h2.put h.size (.loop .exhausted p f0 R4 B6 sy)) {w3 with heap:=w3.heap.setIfInBounds wA.heap.size (.loop {Sg with state:=.exhausted})}:=by
        rw[←d3]at s4 ⊢;exact s4
       have nN:=((sA.trans sB).trans s3).trans VT;have Zq:bU W0 wo {w3 with heap:=w3.heap.setIfInBounds wA.heap.size (.loop {Sg with state:=.exhausted})} (mk::a.defers) (w.heap.size::rs):=((hmarks.step sB).step s3).step VT;refine⟨p,{w3 with heap:=w3.heap.setIfInBounds wA.heap.size (.loop {Sg with state:=.exhausted})},?_,?_⟩
       ·unfold Instr.endLoop;simp only[Sem.run_bind,run_getLoop (P:=P) d1,Result.andThen_ok];rw[if_neg (by rw[d2];intro hh;rw[bne_iff_ne]at bN;exact bN (eq_of_beq hh))];simp only[Sem.run_bind,cG (P:=P) d1 (fun _ _ _=>by simp),Result.andThen_ok,Sem.run_pure,d3]
       ·cases p with
        |none=>exact hQ _ f _ wo _ _ _ q0 (hf.mono nN.le) Zq nN
        |some cj=>
         exact hk cj f _ K out q0 wo {a with defers:=mk::a.defers} _ W0 _ (hf.mono nN.le) VT.rel Zq (Nat.le_trans hW nN.grow.size) F n Q hF (.inl UL) fun ex f5 h5 μ5 a5 w5 rs5 p0 p1 p2 s5=>hQ ex f5 h5 μ5 a5 w5 rs5 p0 p1 p2 (nN.trans s5)
      ·cases q0
   ·cases hr
  |scope b=>simp only[dM]at hr;cases hr
  |label l=>simp only[dM]at hr;cases hr
  |goto l=>simp only[dM]at hr;cases hr
  |refuse s=>simp only[dM]at hr;cases hr
theorem yB (hE:bB P E) (hO:gL P E base B) (hm:P.follows .mixedOrders=true) (n:Nat):wX P E base B (J6 E base n):=
 J7 hE hO (Ta hE hO (JD hE hm) n).1
end
def Tb (base:Nat):KV:=fun v h'=>match v with
 | .slice (some ⟨b,o,some z⟩) len _=>(al h' b o (len*z)).bind fun cs=>bI (Nat.ble base b&&Nat.blt 0 len&&cs.all scalar) (some (.bool false::goInt len::goInt z::cs))
 |v=>bI (az v) (some [.bool true,v])
def Bi (h:ae):Out→Option (Value×ae)
 |[.bool true,v]=>bI (az v) (some (v,h))
 | .bool false:: .int _ (.ofNat len):: .int _ (.ofNat z)::cs=>some (.slice (some ⟨h.size,0,some z⟩) len (len+1),h.push (.cells cs h.size (h.size+1) 0))
 |_=>none
noncomputable def Fk (E:Env) (n:Nat):eR:=fun g args h=>(J6 E h.size n g args h (Tb h.size)).bind (Bi h)
theorem bq.ext {E:Env} {base B:Nat} {μ:bt} {h:ae} {w w':World} (H:bq E base B μ h w) (hs:w.heap.size≤w'.heap.size) (hk:∀r,r<w.heap.size→w'.heap[r]? =w.heap[r]?):bq E base B μ h w':=
 ⟨H.gh,H.high,fun b m hb=>by
  obtain⟨p,p',k1,k2,k3⟩:=H.obj b m hb;exact⟨p,p',k1,by rw[hk _ (H.lt hb)];exact k2,k3⟩,H.own,H.alias,H.dJ,H.de,Nat.le_trans H.low hs,H.lK,H.wf,H.root⟩
theorem bq.Iq {E E0:Env} {base B:Nat} {μ:bt} {h:ae} {w:World} (H:bq E base B μ h w) (hg:∀g,E0.de g=true→E.de g=true):bq E0 h.size w.heap.size μ h w:=
 ⟨H.gh,H.high,fun b m hb=>by
  obtain⟨p,p',k1,k2,k3⟩:=H.obj b m hb;have hd:=H.gh b m hb;refine⟨p,p',k1,k2,?_⟩;cases k3 with
  |cells hn hl hf hc=>exact .cells hn hl (fun h=>by omega) hc
  |map hs=>exact .map hs
  |iR hs=>exact .iR hs
  |mn hs=>exact .mn hs
  |dg hk hs=>exact .dg hk hs
  |loop hf=>exact .loop hf
  |eE hp hs hc hn=>exact .eE hp hs hc hn,fun b m hb zO=>by have:=H.gh b m hb;omega,fun b1 b2 m1 m2 h1 h2 _ _ zO=>by have:=H.gh b1 m1 h1;have:=H.gh b2 m2 h2;omega,H.dJ,fun g Zu=>H.de g (hg g Zu),Nat.le_refl _,Nat.le_refl _,H.wf,H.root⟩
section
variable {P:Program} {E E0:Env} {base B:Nat}
theorem yC {μ:bt} {h hX:ae} {w:World} (H:bq E base B μ h w) (_:hX.size=h.size) {out:Out} {v:Value} {h':ae} (gZ:Bi h out=some (v,h')) {u u':Value} {h1:ae} {gd:bt} {w':World}
 (hK:Tb h.size u h1=some out) (hv:ar gd u u') (S:Step E0 h.size w.heap.size μ hX w gd h1 w'):kp E base B μ h w v h' (.returned u') w':=by
 have hold:∀r,r<w.heap.size→w'.heap[r]? =w.heap[r]? :=fun r mR=>S.grow.bw r mR fun b m hb _=>H.gh b m hb;have Hx:=H.ext S.grow.size hold;have gr:Grow base μ w w':=⟨S.grow.tape,S.grow.os,S.grow.output,S.grow.size,fun r mR _=>hold r mR⟩;have plain:∀v:Value,az v=true→Bi h [.bool true,v]=some (v,h):=fun v hp=>by simp[Bi,bI,hp]
 unfold Tb at hK;split at hK
 ·rename_i b o z len cap;simp only[Option.bind_eq_some_iff,aj,Bool.and_eq_true,aT,a7,Option.some.injEq]at hK;obtain⟨cs,fN,⟨⟨zO,hlen⟩,hsc⟩,rfl⟩:=hK;simp only[Bi,goInt,Option.some.injEq,Prod.mk.injEq]at gZ;obtain⟨rfl,rfl⟩:=gZ;cases hv with
  |lit hh=>simp[az]at hh
  |cY hb=>omega
  |slice hb q1 q2 q3 q4=>
   rename_i cap' m;obtain⟨o1,o2,k1,k2,k3⟩:=S.rel.obj b m hb;obtain⟨rc1,rc2⟩:=S.rel.al hb fN;have Ir:w.heap.size≤m.r:=by
    have hn:μ b=none:=by
     cases hx:μ b with
     |none=>rfl
     |some mx=>have:=H.gh b mx hx;omega
    rcases(S.new b m hn hb).2.2 with h5|⟨b0,m0,r1,r2,_⟩
    ·exact h5
    ·have:=H.gh b0 m0 r2;omega
   let m2:MT:=⟨m.r,m.s+o,m.n⟩
   have Hp:=Hx.Er (o:=.cells cs h.size (h.size+1) 0) (fun _ _ _ _ hh=>by cases hh;rfl);have eV:(h.push (.cells cs h.size (h.size+1) 0)).get h.size=some (.cells cs h.size (h.size+1) 0):=by rw[ae.au,if_pos rfl]
   obtain⟨c0,e0,WD,K9,UF,sm,s7⟩:∃c e fr,w'.heap[m.r]? =some (.cells c e fr)∧c.size=m.n∧oX fr m.n∧(∀(i:Nat) v,cs[i]? =some v→∃v',c[m.s+o+i]? =some v'∧ar gd v v'):=by
    have Is:=fN;unfold M.al at Is;simp only[Option.bind_eq_some_iff]at Is;obtain⟨JY,zY,_⟩:=Is;obtain⟨c,e,fr,t1,t2,t3,t4,t5⟩:=S.rel.read hb zY;refine⟨c,e,fr,t1,t2,t4 zO,fun i v hv=>?_⟩;obtain⟨v',s1,s2⟩:=rc2 i v hv;refine⟨v',?_,s2⟩;simpa[World.cell?,t1]using s1
   have hle:m.s+o+cs.length≤m.n:=by
    rw[rc1];have:len*z≤cap'*z:=Nat.mul_le_mul_right z q2;omega
   have U8:∀(i:Nat) v,cs[i]? =some v→scalar v=true:=fun i v hv=>List.all_eq_true.1 hsc v (List.mem_of_getElem? hv);have ho:il (jH μ h.size m2) (h.push (.cells cs h.size (h.size+1) 0)) base h.size m2 (.cells cs h.size (h.size+1) 0) (.cells c0 e0 WD):=by
    refine .cells UF hle (fun _=>sm) fun _ i v hv=>?_;obtain⟨v',s1,s2⟩:=s7 i v hv;have:=s2.ax (U8 i v hv);subst this;exact⟨v',s1,.p6 _ (U8 i v' hv)⟩
   have Ht:=Hp.AK (b:=h.size) (m:=m2) (by simp[ae.size_push]) eV H.fresh H.lK (by have:=H.low;show B≤m.r;omega) K9
    (fun d md hd he=>by have:=H.lt hd;simp only[m2]at he;omega) (fun _ _ _ _ hh=>by cases hh;exact⟨rfl,om⟩) (fun _ _ hh=>by simp at hh) ho
   refine⟨_,jH μ h.size m2,rfl,?_,Ht,gr,fF H.fresh,fun d md h0 hd=>?_,fun d hd _=>by rw[ae.au,if_neg om],by simp[ae.size_push]⟩
   ·have:=ar.slice (μ:=jH μ h.size m2) (b:=h.size) (o:=0) (z:=z) (len:=len) (cap:=len+1) (cap':=cap') (m:=m2) (bx _ _ _) om q2 (fun h=>by omega) (by simpa[m2]using q4);simpa[m2]using this
   ·by_cases ed:d=h.size
    ·subst ed;rw[bx]at hd;cases hd;exact⟨Nat.le_refl _,H.lK,.inl Ir⟩
    ·rw[mq _ _ ed,h0]at hd;cases hd
 ·simp only[aj,Option.some.injEq]at hK;obtain⟨hp,rfl⟩:=hK;rw[plain _ hp]at gZ;simp only[Option.some.injEq,Prod.mk.injEq]at gZ;obtain⟨rfl,rfl⟩:=gZ;have:u'=u:=by cases u<;>simp[az]at hp<;>cases hv<;>first|rfl |simp_all
  subst this;exact⟨u',μ,rfl,.lit hp,Hx,gr,μ.le_refl,fun b m h0 h1=>(by rw[h0]at h1;cases h1),fun _ _ _=>rfl,Nat.le_refl _⟩
theorem Pf (hE0:bB P E0) (hO:∀base B,gL P E0 base B) (hm:P.follows .mixedOrders=true) (hg:∀g,E0.de g=true→E.de g=true) (k:Nat):jX P E base B (Fk E0 k):=by
 intro μ h w g args args' v h' hc hr H F n hF;unfold Fk at hc;simp only[Option.bind_eq_some_iff]at hc;obtain⟨out,gY,gZ⟩:=hc;have H2:=H.Iq hg;refine(yB hE0 (hO _ _) hm k μ h w g args args' _ out gY hr H2 F n hF).mono ?_;rintro e w' ⟨u,u',h1,gd,hK,rfl,hv,S⟩;exact yC H rfl gZ hK hv S
end
noncomputable def aeV (P:Program) (fs:List Nat) (n:Nat):FuncId→List Value→ae→Option (Value×ae):=fun g args h=>
 match fs.contains g with
 |true=>Fk (ew P oy) n g args h
 |false=>none
def Tc (x:Int):List Int→List Int
 |[]=>[x]
 |y::l=>bif Int.blt' x y then x::y::l else y::Tc x l
where Int.blt' (x y:Int):Bool:=decide (x<y)
def vJ:List Int→List Int
 |[]=>[]
 |x::l=>Tc x (vJ l)
theorem Bj (x:Int):∀l,(Tc x l).Perm (x::l)
 |[]=>.refl _
 |y::l=>by
  unfold Tc;rw[bT];split
  ·exact .refl _
  ·exact((Bj x l).cons y).trans (.swap x y l)
theorem yD:∀l,(vJ l).Perm l
 |[]=>.refl _
 |x::l=>(Bj x _).trans ((yD l).cons x)
def vK:List Value→Option (List Int)
 |[]=>some []
 | .int .i64 x::l=>(vK l).bind fun r=>some (x::r)
 |_=>none
theorem yE:∀{l:List Value} {r:List Int},vK l=some r→l=r.map (.int .i64)
 |[],r,h=>by simp[vK]at h;subst h;rfl
 | .int .i64 x::l,r,h=>by
  simp only[vK,Option.bind_eq_some_iff,Option.some.injEq]at h;obtain⟨r',h1,rfl⟩:=h;rw[yE h1];rfl
def aau (base:Nat):KV:=fun v h'=>match v with
 | .slice (some ⟨b,o,some 1⟩) len _=>(al h' b o len).bind fun cs=>(vK cs).bind fun xs=>bI (Nat.ble base b&&Nat.blt 0 len) (some (.bool false::goInt len::(vJ xs).map (.int .i64)))
 |v=>bI (az v) (some [.bool true,v])
def Td (h:ae):Out→Option (Value×ae)
 |[.bool true,v]=>bI (az v) (some (v,h))
 | .bool false:: .int _ (.ofNat len)::cs=>(vK cs).bind fun xs=>some (.slice (some ⟨h.size,0,some 1⟩) len (len+1),h.push (.eE xs))
 |_=>none
noncomputable def De (E:Env) (n:Nat):eR:=fun g args h=>(J6 E h.size n g args h (aau h.size)).bind (Td h)
theorem Bk:∀l:List Int,vK (l.map (.int .i64))=some l
 |[]=>rfl
 |x::l=>by simp[vK,Bk l]
section
variable {P:Program} {E E0:Env} {base B:Nat}
theorem LM (hE0:bB P E0) (hO:∀base B,gL P E0 base B) (hm:P.follows .mixedOrders=true) (hg:∀g,E0.de g=true→E.de g=true) (k:Nat):jX P E base B (De E0 k):=by
 intro μ h w g args args' v h' hc hr H F n hF;unfold De at hc;simp only[Option.bind_eq_some_iff]at hc;obtain⟨out,gY,gZ⟩:=hc;have H2:=H.Iq hg;refine(yB hE0 (hO _ _) hm k μ h w g args args' _ out gY hr H2 F n hF).mono ?_;rintro e w' ⟨u,u',h1,gd,hK,rfl,hv,S⟩;have hold:∀r,r<w.heap.size→w'.heap[r]? =w.heap[r]? :=fun r mR=>S.grow.bw r mR fun b m hb _=>H.gh b m hb;have Hx:=H.ext S.grow.size hold;have gr:Grow base μ w w':=⟨S.grow.tape,S.grow.os,S.grow.output,S.grow.size,fun r mR _=>hold r mR⟩;have plain:∀v:Value,az v=true→Td h [.bool true,v]=some (v,h):=fun v hp=>by simp[Td,bI,hp]
 unfold aau at hK;split at hK
 ·rename_i b o len cap;simp only[Option.bind_eq_some_iff,aj,Bool.and_eq_true,aT,a7,Option.some.injEq]at hK;obtain⟨cs,fN,xs,M9,⟨zO,hlen⟩,rfl⟩:=hK;have qF:=yE M9;simp only[Td,goInt,Bk,Option.bind_some,Option.some.injEq,Prod.mk.injEq]at gZ;obtain⟨rfl,rfl⟩:=gZ;cases hv with
  |lit hh=>simp[az]at hh
  |cY hb=>omega
  |slice hb q1 q2 q3 q4=>
   rename_i cap' m;obtain⟨rc1,rc2⟩:=S.rel.al hb fN;have Ir:w.heap.size≤m.r:=by
    have hn:μ b=none:=by
     cases hx:μ b with
     |none=>rfl
     |some mx=>have:=H.gh b mx hx;omega
    rcases(S.new b m hn hb).2.2 with h5|⟨b0,m0,r1,r2,_⟩
    ·exact h5
    ·have:=H.gh b0 m0 r2;omega
   let m2:MT:=⟨m.r,m.s+o,m.n⟩
   have Hp:=Hx.Er (o:=.eE (vJ xs)) (fun _ _ _ _ hh=>by cases hh);have eV:(h.push (.eE (vJ xs))).get h.size=some (.eE (vJ xs)):=by rw[ae.au,if_pos rfl]
   obtain⟨c0,e0,WD,K9,UF,s7⟩:∃c e fr,w'.heap[m.r]? =some (.cells c e fr)∧c.size=m.n∧(∀(i:Nat) v,cs[i]? =some v→∃v',c[m.s+o+i]? =some v'∧ar gd v v'):=by
    have Is:=fN;unfold M.al at Is;simp only[Option.bind_eq_some_iff]at Is;obtain⟨JY,zY,_⟩:=Is;obtain⟨c,e,fr,t1,t2,t3,t4,t5⟩:=S.rel.read hb zY;refine⟨c,e,fr,t1,t2,fun i v hv=>?_⟩;obtain⟨v',s1,s2⟩:=rc2 i v hv;refine⟨v',?_,s2⟩;simpa[World.cell?,t1]using s1
   have hxl:xs.length=len:=by rw[←rc1,qF];simp
   have ho:il (jH μ h.size m2) (h.push (.eE (vJ xs))) base h.size m2 (.eE (vJ xs)) (.cells c0 e0 WD):=by
    refine .eE (l:=xs) (yD xs).symm (by show m.s+o+xs.length≤m.n;omega) (fun i x hx=>?_) UF;obtain⟨v',s1,s2⟩:=s7 i (.int .i64 x) (by rw[qF];simp[hx]);have:=s2.ax rfl;subst this;exact s1
   have Ht:=Hp.AK (b:=h.size) (m:=m2) (by simp[ae.size_push]) eV H.fresh H.lK (by have:=H.low;show B≤m.r;omega) K9
    (fun d md hd he=>by have:=H.lt hd;simp only[m2]at he;omega) (fun _ _ _ _ hh=>by cases hh) (fun _ _ hh=>by cases hh) ho
   refine⟨_,jH μ h.size m2,rfl,?_,Ht,gr,fF H.fresh,fun d md h0 hd=>?_,fun d hd _=>by rw[ae.au,if_neg om],by simp[ae.size_push]⟩
   ·have:=ar.slice (μ:=jH μ h.size m2) (b:=h.size) (o:=0) (z:=1) (len:=len) (cap:=len+1) (cap':=cap') (m:=m2) (bx _ _ _) om q2 (fun h=>by omega) (by simpa[m2]using q4);simpa[m2]using this
   ·by_cases ed:d=h.size
    ·subst ed;rw[bx]at hd;cases hd;exact⟨Nat.le_refl _,H.lK,.inl Ir⟩
    ·rw[mq _ _ ed,h0]at hd;cases hd
 ·simp only[aj,Option.some.injEq]at hK;obtain⟨hp,rfl⟩:=hK;rw[plain _ hp]at gZ;simp only[Option.some.injEq,Prod.mk.injEq]at gZ;obtain⟨rfl,rfl⟩:=gZ;have:u'=u:=by cases u<;>simp[az]at hp<;>cases hv<;>first|rfl |simp_all
  subst this;exact⟨u',μ,rfl,.lit hp,Hx,gr,μ.le_refl,fun b m h0 h1=>(by rw[h0]at h1;cases h1),fun _ _ _=>rfl,Nat.le_refl _⟩
end
def uO (x:Int):List Int→List (List Int)
 |[]=>[[x]]
 |y::l=>(x::y::l)::(uO x l).map (y::·)
def perms:List Int→List (List Int)
 |[]=>[[]]
 |x::l=>(perms l).flatMap (uO x)
theorem yF (x:Int):∀a b:List Int,a++x::b∈uO x (a++b)
 |[],[]=>by simp[uO]
 |[],y::b=>by simp[uO]
 |y::a,b=>by
  simp only[List.cons_append,uO,List.mem_cons,List.mem_map];exact .inr ⟨_,yF x a b,rfl⟩
theorem Bl:∀{cs l:List Int},l.Perm cs→l∈perms cs
 |[],l,h=>by simp[perms,h.eq_nil]
 |x::cs,l,h=>by
  have hx:x∈l:=h.mem_iff.2 List.mem_cons_self;obtain⟨a,b,rfl⟩:=List.append_of_mem hx;have hp:(a++b).Perm cs:=(List.perm_middle.symm.trans h).cons_inv;simp only[perms,List.mem_flatMap];exact⟨a++b,Bl hp,yF x a b⟩
def tn (h:ae):List Value→Option (Nat×List Int)
 |[]=>none
 | .slice (some ⟨b,_,some _⟩) _ cap::l=>(match Nat.beq cap 0,h.get b with
  |false,some (.eE cs)=>some (b,cs)
  |_,_=>tn h l)
 |_::l=>tn h l
def Iu (h:ae) (b:Nat):Bool:=(List.range h.size).all fun c=>match h.get c with
 |some (.cells _ f _ _)=> !Nat.beq f b
 |_=>true
noncomputable def Df (E:Env) (n:Nat):eR:=fun g args h=>(tn h args).bind fun r=>bI (Nat.blt r.1 h.size&&Iu h r.1)<|
 (meet ((perms r.2).map fun l=>J6 E h.size n g args (h.put r.1 (.cells (l.map (.int .i64)) r.1 h.size 0)) (Tb h.size))).bind (Bi h)
theorem LN {h:ae} {args:List Value} {r:Nat×List Int} (hr:tn h args=some r):h.get r.1=some (.eE r.2):=by
 induction args with
 |nil=>simp[tn]at hr
 |cons v l ih=>
  unfold tn at hr;split at hr
  ·cases hr
  ·rename_i b o z len cap l' heq;simp only[List.cons.injEq]at heq;obtain⟨_,rfl⟩:=heq;split at hr
   ·rename_i cs hg;simp only[Option.some.injEq]at hr;subst hr;exact hg
   ·exact ih hr
  ·rename_i v' l' _ heq;simp only[List.cons.injEq]at heq;obtain⟨_,rfl⟩:=heq;exact ih hr
section
variable {P:Program} {E E0:Env} {base B:Nat}
theorem bq.aav {μ:bt} {h:ae} {w:World} (H:bq E base B μ h w) (adL:∀b,b<h.size→b<base) {b:Nat} {m:MT} (hb:μ b=some m) {cs:List Int} (hg:h.get b=some (.eE cs)) (hn:Iu h b=true):
 ∃l:List Int,l.Perm cs∧bq E base B μ (h.put b (.cells (l.map (.int .i64)) b h.size 0)) w:=by
 obtain⟨p,p',k1,k2,k3⟩:=H.obj b m hb;rw[hg]at k1;cases k1;have hbs:=H.gh b m hb;cases k3 with
 |eE hp hl hc UF=>
  rename_i c e fr l;refine⟨l,hp,?_⟩;have cF:∀c cs' f t th,h.get c=some (.cells cs' f t th)→f≠b:=by
   intro c cs' f t th ur hfb;have qF:c<h.size:=by
    rcases Nat.lt_or_ge c h.size with h1|h1
    ·exact h1
    ·rw[H.high c h1]at ur;cases ur
   unfold Iu at hn;have:=List.all_eq_true.1 hn c (List.mem_range.2 qF);rw[ur]at this;simp[hfb]at this
  have Dg:∀c,c≠b→(h.put b (.cells (l.map (.int .i64)) b h.size 0)).get c=h.get c:=fun c hc=>by rw[ae.eM,if_neg hc]
  have qG:(h.put b (.cells (l.map (.int .i64)) b h.size 0)).get b=some (.cells (l.map (.int .i64)) b h.size 0):=by rw[ae.eM,if_pos rfl]
  have mQ:∀c,c≠b→(h.put b (.cells (l.map (.int .i64)) b h.size 0)).dJ c=h.dJ c:=by
   intro c hc;apply sC;intro r;obtain⟨f,c8,ba⟩:=r;rw[gU,gU];constructor
   ·rintro⟨cs',t0,gA,c0,q1,q2⟩;rw[Dg c hc]at q1;have hfb:=cF _ _ _ _ _ q1;rw[Dg f hfb]at q2;exact⟨cs',t0,gA,c0,q1,q2⟩
   ·rintro⟨cs',t0,gA,c0,q1,q2⟩;have hfb:=cF _ _ _ _ _ q1;exact⟨cs',t0,gA,c0,by rw[Dg c hc];exact q1,by rw[Dg f hfb];exact q2⟩
  have U9:h.dJ b=none:=by
   cases hf:h.dJ b with
   |none=>rfl
   |some r=>obtain⟨cs',t,th,q⟩:=dO hf;rw[hg]at q;cases q
  have WM:(h.put b (.cells (l.map (.int .i64)) b h.size 0)).dJ b=some (b,h.size,0):=cB qG qG;have uf:∀c,c≠b→(h.put b (.cells (l.map (.int .i64)) b h.size 0)).cellsOf c=h.cellsOf c:=fun c hc=>by unfold ae.cellsOf;rw[Dg c hc]
  have fN:∀c,c≠b→(h.put b (.cells (l.map (.int .i64)) b h.size 0)).rd c=h.rd c:=fun c hc=>by unfold ae.rd;rw[mQ c hc,uf c hc]
  have hlen:∀c,c≠b→lenOf (h.put b (.cells (l.map (.int .i64)) b h.size 0)) c=lenOf h c:=fun c hc=>by unfold lenOf;rw[uf c hc]
  refine⟨H.gh,fun c hc=>by rw[Dg c (by simp only[ae.size_put]at hc;omega)];exact H.high c hc,fun c mc hc=>?_,H.own,fun b1 b2 m1 m2 h1 h2 hr bD zO=>?_,fun c mc r hc hr=>?_,H.de,H.low,H.lK,fun c cs' f t th ur=>?_,fun c mc cs' th hc ur=>?_⟩
  ·by_cases ec:c=b
   ·subst ec;rw[hb]at hc;cases hc;refine⟨_,_,qG,k2,.cells UF (by simpa using hl) (fun h9=>?_) fun _ i v hv=>?_⟩
    ·have:=adL c hbs;omega
    ·rw[List.getElem?_map,Option.map_eq_some_iff]at hv;obtain⟨x,hx,rfl⟩:=hv;exact⟨_,hc i x hx,.int μ _ _⟩
   ·obtain⟨q,q',j1,j2,j3⟩:=H.obj c mc hc;exact⟨q,q',by rw[Dg c ec];exact j1,j2,j3.mono μ.le_refl (by rw[fN c ec];exact id)⟩
  ·obtain⟨r,q1,q2,q3⟩:=H.alias b1 b2 m1 m2 h1 h2 hr bD zO;have e1:b1≠b:=fun e=>by subst e;rw[U9]at q1;cases q1
   have e2:b2≠b:=fun e=>by subst e;rw[U9]at q2;cases q2
   exact⟨r,by rw[mQ b1 e1];exact q1,by rw[mQ b2 e2];exact q2,by rw[hlen b1 e1,hlen b2 e2];exact q3⟩
  ·by_cases ec:c=b
   ·subst ec;rw[WM]at hr;cases hr;exact⟨Nat.le_of_lt hbs,Nat.le_refl _,m,hb⟩
   ·rw[mQ c ec]at hr;exact H.dJ c mc r hc hr
  ·by_cases ec:c=b
   ·subst ec;rw[qG]at ur;cases ur;exact Nat.le_refl _
   ·rw[Dg c ec]at ur;exact H.wf _ _ _ _ _ ur
  ·by_cases ec:c=b
   ·subst ec;rw[qG]at ur;simp only[Option.some.injEq,fk.cells.injEq]at ur;omega
   ·rw[Dg c ec]at ur;exact H.root _ _ _ _ hc ur
theorem LO {μ:bt} {h:ae} {args args':List Value} (hr:ay μ args args') {b:Nat} {cs:List Int} (hb:tn h args=some (b,cs)):∃m,μ b=some m:=by
 induction hr with
 |nil=>simp[tn]at hb
 |cons hv _ ih=>
  unfold tn at hb;split at hb
  ·cases hb
  ·rename_i b0 o z len cap l' heq;simp only[List.cons.injEq]at heq;obtain⟨rfl,rfl⟩:=heq;split at hb
   ·rename_i cs' hz hg;simp only[Option.some.injEq,Prod.mk.injEq]at hb;obtain⟨rfl,rfl⟩:=hb;cases hv with
    |lit hh=>simp[az]at hh
    |slice h1=>exact⟨_,h1⟩
    |cY h1=>exact h1 (by rintro rfl;simp at hz)
   ·exact ih hb
  ·rename_i v' l' _ heq;simp only[List.cons.injEq]at heq;obtain⟨_,rfl⟩:=heq;exact ih hb
theorem LP (hE0:bB P E0) (hO:∀base B,gL P E0 base B) (hm:P.follows .mixedOrders=true) (hg:∀g,E0.de g=true→E.de g=true) (k:Nat):jX P E base B (Df E0 k):=by
 intro μ h w g args args' v h' hc hr H F n hF;unfold Df at hc;simp only[Option.bind_eq_some_iff,aj,Bool.and_eq_true,a7]at hc;obtain⟨⟨b,cs⟩,aax,⟨aU,Sd⟩,out,aay,gZ⟩:=hc;obtain⟨m,hb⟩:=LO hr aax;have eV:=LN aax;have H2:=H.Iq hg;obtain⟨l,hl,H3⟩:=H2.aav (fun _ h=>h) hb eV Sd;have gY:=Bh aay _ (List.mem_map_of_mem (Bl hl));refine(yB hE0 (hO _ _) hm k μ _ w g args args' _ out gY hr H3 F n hF).mono ?_;rintro e w' ⟨u,u',h1,gd,hK,rfl,hv,S⟩;exact yC (hX:=h.put b (.cells (l.map (.int .i64)) b h.size 0)) H rfl gZ hK hv S
end
noncomputable def rZ (P:Program) (fs bs ps:List Nat) (n:Nat):FuncId→List Value→ae→Option (Value×ae):=fun g args h=>
 match fs.contains g with
 |true=>Fk (ew P oy) n g args h
 |false=>match bs.contains g with
  |true=>De (ew P oy) n g args h
  |false=>match ps.contains g with
   |true=>Df (ew P oy) n g args h
   |false=>none
theorem LQ {P:Program} (hm:P.follows .mixedOrders=true) (fs bs ps:List Nat) (n base B:Nat):gL P (ew P (rZ P fs bs ps n)) base B:=by
 intro μ h w g args args' v h' hc hr H F k hF;have kX:rZ P fs bs ps n g args h=some (v,h'):=hc;unfold rZ at kX;split at kX
 ·exact Pf (E:=ew P (rZ P fs bs ps n)) (xG P oy) (fun _ _=>xI) hm (fun _ hg=>hg) n μ h w g args args' v h' kX hr H F k hF
 ·split at kX
  ·exact LM (E:=ew P (rZ P fs bs ps n)) (xG P oy) (fun _ _=>xI) hm (fun _ hg=>hg) n μ h w g args args' v h' kX hr H F k hF
  ·split at kX
   ·exact LP (E:=ew P (rZ P fs bs ps n)) (xG P oy) (fun _ _=>xI) hm (fun _ hg=>hg) n μ h w g args args' v h' kX hr H F k hF
   ·cases kX
end Go.M
