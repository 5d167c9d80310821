/-
  Part 11 of the library that the proof leans on.
-/
import Derived.Test.YtpkdpgcpmeibpaaGreatDoorL4
namespace Go.M
open Go
abbrev Out:=List Value
abbrev KV:=Value→ab→Option Out
abbrev zm:=FuncId→List Value→ab→KV→Option Out
abbrev vI:=Nat→List Value→ab→KV→Option Out
abbrev KC:=Ex→AF→ab→Option Out
def meet:List (Option Out)→Option Out
 |[]=>none
 |x::xs=>x.bind fun o=>bO (xs.all fun y=>match y with|some o'=>kY o o'|none=>false) (some o)
def Kn (h:ab) (r base:Nat) (K:KV):Option Out:=
 bO (Nat.ble base r)<|
 match h.get r with
 |some (.du none _ _ _)=>K (.tuple #[.bool false]) h
 |some (.du (some m) since seen last)=>(match h.get m with
  |some (.map es clock)=>
   bO (!(!seen.isEmpty&& !es.isEmpty&&es.all (fun e=>Nat.ble last e.born)))<|
   (match es.filter (fun e=> !seen.contains e.born)with
   |[]=>K (.tuple #[.bool false]) h
   |e::l=>meet ((e::l).map fun e=>bO (Nat.blt e.born since) (K (.tuple #[.bool true,e.key,e.val]) (h.put r (.du (some m) since (seen++[e.born]) clock)))))
  |_=>none)
 |_=>none
def ZT (E:Env) (base:Nat) (cK:zm) (rK:vI) (o:Oper) (f:AF) (h:ab) (K:KV):Option Out:=
 match o.op with
 | .next it false=>(match(ev E f it).bind x8 with
  |some r=>Kn h r base K
  |none=>none)
 |_=>
  match aZ E f o with
  |some v=>K v h
  |none=>match b7 E f o with
   |some q=>(match q.run h with|some v=>K v h|none=>none)
   |none=>match bw E f o with
    |some (m,hd)=>K (hd.val h.size) (h.push (m.obj h.size))
    |none=>match dx E base f o h with
     |some (.val v,h')=>K v h'
     |some (.enter g args,h')=>cK g args h' K
     |some (.round l args,h')=>rK l args h' K
     |none=>none
def Pc (E:Env) (base:Nat) (cK:zm) (rK:vI) (ops:List Oper):List Oper→AF→ab→(AF→ab→Option Out)→Option Out
 |[],f,h,K=>K f h
 |o::rest,f,h,K=>
  match wanted ops o f with
  |true=>ZT E base cK rK o f h fun v h'=>Pc E base cK rK ops rest (f.put o.dst v) h' K
  |false=>Pc E base cK rK ops rest (f.put o.dst undef) h K
abbrev Pd:=Code→AF→ab→KC→Option Out
def sM (E:Env) (base:Nat) (run:Pd):zm:=fun g args h K=>
 match E.func g with
 |none=>none
 |some fn=>match E.rF base g args h with
  |some r=>K r.1 r.2
  |none=>match fn.body with
   |none=>none
   |some c=>bO (Nat.ble args.length fn.ntmps)<|run c (AF.enter args fn.ntmps) h fun ex f h'=>
    match ex with
    | .exit _=>none
    |_=>match eo E h' f fn.results.toList with
     |some vs=>K (eu vs) h'
     |none=>none
def uk (base:Nat) (run:Pd):vI:=fun l args h K=>
 bO (Nat.ble base l)<|
 match h.get l with
 |some (.loop .ready _ f ps jX body)=>bO (Nat.beq ps.length args.length&&bn jX&&bn body)<|
  run jX (AF.oC (ps.zip args) f) h fun ex f1 h1=>
   (match ex with
   | .normal=>(match h1.get l with
    |some (.loop .ready p1 f0 Hu rG kP)=>
     run body f1 (h1.put l (.loop .busy p1 f0 Hu rG kP)) fun V7 _ h2=>
      (match h2.get l with
      |some (.loop _ _ f0 Hu rG kP)=>
       (match V7 with
       | .normal=>K (.bool true) (h2.put l (.loop .ready none f0 Hu rG kP))
       | .ret=>K (.bool false) (h2.put l (.loop .done (some .ret) f0 Hu rG kP))
       | .exit id=>K (.bool false) (h2.put l (.loop .done (some (.exit id)) f0 Hu rG kP)))
      |_=>none)
    |_=>none)
   |_=>none)
 |_=>none
noncomputable def dY (E:Env) (base:Nat):Nat→Pd
 |0,_,_,_,_=>none
 |n+1,c,f,h,K=>
  match c with
  | .skip=>K .normal f h
  | .region _ ops draw=>(match draw with
   |false=>Pc E base (sM E base (dY E base n)) (uk base (dY E base n)) ops.toList ops.toList f h fun f' h'=>K .normal f' h'
   |true=>(match kZ E base (aX E base n) ops true f h with
    |some (ex,f',h')=>K ex f' h'
    |none=>none))
  | .seq a b=>dY E base n a f h fun ex f' h'=>(match ex with
   | .normal=>dY E base n b f' h' K
   |ex=>K ex f' h')
  | .cond c t e=>(match(ev E f c).bind Nv with
   |some true=>dY E base n t f h K
   |some false=>dY E base n e f h K
   |none=>none)
  | .block id b=>dY E base n b f h fun ex f' h'=>(match ex with
   | .exit pj=>bif Nat.beq pj id then K .normal f' h' else K (.exit pj) f' h'
   |ex=>K ex f' h')
  | .loop b=>dY E base n b f h fun ex f' h'=>(match ex with
   | .normal=>dY E base n (.loop b) f' h' K
   |ex=>K ex f' h')
  | .exit id=>K (.exit id) f h
  | .ret=>K .ret f h
  | .rangeFunc g ps jX body=>(match ev E f g with
   |some (.func (.func g) first captured)=>bO (Nat.ble base h.size)<|
    sM E base (dY E base n) g (first.toList++[.func (.yield h.size) #[] #[]]++captured.toList) (h.push (.loop .ready none f ps.toList jX body)) fun _ h1=>
     (match h1.get h.size with
     |some (.loop st p f0 Rx CH tB)=>bO (st != .busy) (match p with
      |none=>K .normal f (h1.put h.size (.loop .exhausted p f0 Rx CH tB))
      |some c=>dY E base n c f (h1.put h.size (.loop .exhausted p f0 Rx CH tB)) K)
     |_=>none)
   |_=>none)
  |_=>none
noncomputable def Ko (E:Env) (base n:Nat):zm:=sM E base (dY E base n)
section
variable {P:Program} {E:Env} {μ:bx} {f:AF} {a:Act} {base B:Nat} {h:ab} {w:World}
theorem cJ.get' {l l':List MapEntry} (hs:cJ μ l l'):∀(i:Nat) (e':MapEntry),l'[i]? =some e'→∃e,l[i]? =some e∧ar μ e.key e'.key∧ar μ e.val e'.val∧e.born=e'.born:=by
 induction hs with
 |nil=>intro i e' h;simp at h
 |cons q1 q2 q3 _ ih=>
  intro i e' h;cases i with
  |zero=>simp at h;subst h;exact⟨_,rfl,q1,q2,q3⟩
  |succ i=>simpa using ih i e' (by simpa using h)
theorem Be (n:Nat) (hn:0<n) (w:World):∃i d,i<n∧(choose (.mapNext n)).run P w= .ok i {w with drawn:=d}:=by
 rw[run_choose];by_cases hf:(Question.mapNext n).forced=true
 ·rw[if_pos hf];exact⟨0,w.drawn,hn,rfl⟩
 ·rw[if_neg hf];exact⟨_,w.drawn+1,Nat.mod_lt _ hn,rfl⟩
theorem BZ {l:List (Option Out)} {o:Out} (h:meet l=some o):∀x∈l,x=some o:=by
 cases l with
 |nil=>intro x hx;simp at hx
 |cons y ys=>
  simp only[meet,Option.bind_eq_some_iff,aj,Option.some.injEq,List.all_eq_true]at h;obtain⟨o',rfl,h2,rfl⟩:=h;intro x hx;rcases List.mem_cons.1 hx with rfl |hx
  ·rfl
  ·have:=h2 x hx;cases x with
   |none=>simp at this
   |some o2=>simp only at this;rw[tP this]
theorem LS (H:bt E base B μ h w) {r:Nat} {m:MT} {K:KV} {out:Out} (ty:TypeId) (hk:Kn h r base K=some out) (hb:μ r=some m):
 ∃v h' v' w',K v h'=some out∧(Instr.next (.pointer (some ⟨m.r,0,none⟩)) false ty).run P w= .ok v' w'∧ar μ v v'∧Step E base B μ h w μ h' w':=by
 unfold Kn at hk;simp only[aj,aW]at hk;obtain⟨bE,hk⟩:=hk;obtain⟨o1,o2,k1,k2,k3⟩:=H.obj r m hb;split at hk
 ·rename_i since seen last hg;rw[hg]at k1;cases k1;cases k3 with
  |nb gR=>
   have qS:=run_getObj_map (P:=P) k2 (fun _ _ _=>by simp);refine⟨_,_,_,w,hk,?_,.dQ (by simpa using aA.cons (.bool μ false) .nil),.refl H⟩;unfold Instr.next;simp only[Sem.run_bind,qS,Result.andThen_ok];rfl
 ·rename_i mm since seen last hg;rw[hg]at k1;cases k1;cases k3 with
  |du AL gR=>
   rename_i mk;have qS:=run_getObj_map (P:=P) k2 (fun _ _ _=>by simp);split at hk
   ·rename_i es clock NT;obtain⟨p1,p2,j1,j2,j3⟩:=H.obj mm mk AL;rw[NT]at j1;cases j1;cases j3 with
    |map hs=>
     rename_i bU;have HU:=run_getObj_map (P:=P) j2 (fun _ _ _=>by simp);simp only[aj]at hk;obtain⟨oy,hk⟩:=hk;have hlen:=hs.length;have Vj:bU.isEmpty=es.isEmpty:=by
      cases es<;>cases h9:bU.toList<;>rw[h9]at hlen<;>simp at hlen
      ·have:bU= #[]:=by apply Array.ext';simp[h9]
       simp[this]
      ·have:bU.size≠0:=by have:=congrArg List.length h9;simp at this;omega
       simp[Array.isEmpty,this]
     have cC:(bU.all fun e=>decide (e.born≥last))=es.all (fun e=>Nat.ble last e.born):=by
      rw[←Array.all_toList,←hs.EZ (fun n=>decide (n≥last))]
      congr 1
      funext e
      rw[Bool.eq_iff_iff,aW];simp
     have E4:(!seen.toArray.isEmpty&& !bU.isEmpty&&bU.all fun e=>decide (e.born≥last))=false:=by
      rw[Vj,cC];have:seen.toArray.isEmpty=seen.isEmpty:=by cases seen<;>simp
      rw[this];simpa only[Bool.not_eq_true']using oy
     have rI:=hs.filter (fun n=> !seen.contains n);have Bq:(bU.filter fun e=> !seen.toArray.contains e.born).toList=bU.toList.filter (fun e=> !seen.contains e.born):=by
      simp
     generalize hL:(bU.filter fun e=> !seen.toArray.contains e.born)=left at Bq;split at hk
     ·rename_i hf;rw[hf]at rI;have mP:left= #[]:=by
       apply Array.ext';rw[Bq];cases yj:bU.toList.filter (fun e=> !seen.contains e.born)with
       |nil=>rfl
       |cons x y=>rw[yj]at rI;cases rI
      refine⟨_,_,_,w,hk,?_,.dQ (by simpa using aA.cons (.bool μ false) .nil),.refl H⟩;unfold Instr.next;simp only[Sem.run_bind,qS,HU,Result.andThen_ok,E4,Bool.false_eq_true,if_false,hL,mP];simp[Question.forced]
     ·rename_i e0 l0 hf;rw[←hf]at hk;rw[←Bq]at rI;have RL:=BZ hk;have hk:∀e∈es.filter (fun e=> !seen.contains e.born),e.born<since∧K (.tuple #[.bool true,e.key,e.val]) (h.put r (.du (some mm) since (seen++[e.born]) clock))=some out:=fun e he=>by
       have:=RL _ (List.mem_map_of_mem he);simp only[aj,ba]at this;exact this
      have gB:0<left.size:=by
       have:=rI.length;rw[hf]at this;simp at this;omega
      have hold:∀x∈left,x.born<since:=by
       intro x hx;obtain⟨i,hi⟩:=List.mem_iff_getElem?.1 (by simpa using hx:x∈left.toList);obtain⟨e,h1,_,_,h4⟩:=rI.get' i x hi;rw[←h4];exact(hk e (List.mem_of_getElem? h1)).1
      have f1:(left.filter fun x=>decide (x.born<since))=left:=by
       apply Array.filter_eq_self.2;intro x hx;simpa using hold x hx
      have f2:(left.filter fun x=>decide (x.born≥since))= #[]:=by
       apply Array.filter_eq_empty_iff.2;intro x hx;have:=hold x hx;simp;omega
      have f3:left.isEmpty=false:=by
       cases hle:left.isEmpty with
       |false=>rfl
       |true=>
        have:left= #[]:=by simpa using hle
        rw[this]at gB;simp at gB
      obtain⟨i,d,hi,hch⟩:=Be (P:=P) left.size gB w;have UI:=Array.getElem?_eq_getElem hi;obtain⟨e,h1,h2,h3,h4⟩:=rI.get' i left[i] (by rw[Array.getElem?_toList];exact UI);obtain⟨hbe,hKe⟩:=hk e (List.mem_of_getElem? h1);have Hd:=H.congr (w':={w with drawn:=d}) rfl;have NR:=fun o=>cM (P:=P) (w:={w with drawn:=d}) (o:=o) k2 (fun _ _ _=>by simp);have st:=Step.put (o:=.du (some mm) since (seen++[e.born]) clock) Hd hb bE hg rfl rfl (CN.set {w with drawn:=d} m.r (.mapIter (some mk.r) since (seen.toArray.push left[i].born) clock) (Hd.lt hb)) (by
       have:=iV.du (μ:=μ) (h:=h.put r (.du (some mm) since (seen++[e.born]) clock)) (base:=base) (b:=r) (m:=m) (since:=since) (last:=clock) (seen:=seen++[e.born]) AL gR;rw[h4]at this ⊢;simpa using this)
      refine⟨_,_,_,_,hKe,?_,.dQ (by simpa using aA.cons (.bool μ true) (.cons h2 (.cons h3 .nil))),(Step.drawn H d).trans st⟩;unfold Instr.next;simp only[Sem.run_bind,qS,HU,Result.andThen_ok,E4,Bool.false_eq_true,if_false,hL,f1,f2,f3];have f4:(#[]++(left++ #[]).map some:Array (Option MapEntry))=left.map some:=by simp
      rw[f4];simp only[Array.size_map,hch,Result.andThen_ok,Array.getElem?_map,UI,Option.map_some,Sem.run_bind,NR,Sem.run_pure]
   ·cases hk
 ·cases hk
end
def SD (E:Env) (base B:Nat) (μ:bx) (h:ab) (w:World) (K:KV) (out:Out):Ending→World→Prop:=
 fun e w'=>∃v v' h' a7,K v h'=some out∧e= .returned v'∧ar a7 v v'∧Step E base B μ h w a7 h' w'
def xW (P:Program) (E:Env) (base B:Nat) (cK:zm):Prop:=
 ∀(μ:bx) (h:ab) (w:World) (g:FuncId) (args:List Value) (args':Array Value) (K:KV) (out:Out),cK g args h K=some out→aA μ args args'.toList→bt E base B μ h w→
  ∀(F:Fence) (n:Nat),hZ F→CallsIn F n P g args' w (SD E base B μ h w K out)
def zn (P:Program) (E:Env) (base B:Nat) (rK:vI):Prop:=
 ∀(μ:bx) (h:ab) (w:World) (l:Nat) (args:List Value) (K:KV) (out:Out) (m:MT) (f0:AF) (ps:List Tmp) (jX body:Code) (st:LoopState) (p:Option Code) (fn:FuncId) (tmps:Array Value),
  rK l args h K=some out→h.get l=some (.loop st p f0 ps jX body)→μ l=some m→bt E base B μ h w→dj μ (AF.oC (ps.zip args) f0) tmps→
  ∀(F:Fence) (n:Nat),hZ F→RoundIn F n P m.r fn tmps jX body w (SD E base B μ h w K out)
def zo (E:Env) (cK:zm):Prop:=∀g args h K out,cK g args h K=some out→(E.func g).isSome=true
def vJ (rK:vI):Prop:=∀l args h K out,rK l args h K=some out→∃st p f0 ps jX body,h.get l=some (.loop st p f0 ps jX body)∧ps.length=args.length
section
variable {P:Program} {E:Env} {μ:bx} {f:AF} {a:Act} {base B:Nat} {h:ab} {w:World} {cK:zm} {rK:vI}
theorem Pe {o:Oper} {K:KV} {out:Out} {k:ab} (h:ZT E base cK rK o f k K=some out):∀c,o.op≠ .defer c:=by
 intro c hc;unfold ZT at h;simp only[aZ,b7,bw,dx,hc]at h;cases h
theorem SE (hE:bF P E) (uS:xW P E base B cK) (C3:zn P E base B rK) (C4:zo E cK) (C5:vJ rK) {F:Fence} (hF:hZ F) {n:Nat} (hf:dj μ f a.tmps) (H:bt E base B μ h w) {o:Oper} {K:KV} {out:Out} (hr:ZT E base cK rK o f h K=some out)
 {next:Act→World→Prop} {Q:Exit→Act→World→Prop} (hn:∀a7 v v' h' w',K v h'=some out→ar a7 v v'→Step E base B μ h w a7 h' w'→next (a.put o.dst v') w'):o.wpIn F n P a w next Q:=by
 have hg:hY E μ:=H.dp;refine⟨fun _ _=>hF.fn _,?_⟩;rw[Oper.semAt_eq _ _ _ (Pe hr)];unfold ZT at hr;split at hr
 ·rename_i it iW;split at hr
  ·rename_i r hit;simp only[Option.bind_eq_some_iff]at hit;obtain⟨v1,h1,h2⟩:=hit;have e:=p6 h2;subst e;obtain⟨m,hb,ex⟩:=(bp hg hf h1).jd;have gR:m.s=0:=by
    obtain⟨o1,o2,k1,k2,k3⟩:=H.obj r m hb;unfold Kn at hr;simp only[aj]at hr;have Ng:=hr.2;cases k3 with
    |jB hs=>exact hs
    |nb hs=>exact hs
    |du _ hs=>exact hs
    |_=>rw[k1]at Ng;simp at Ng
   obtain⟨v,h',v',w',q0,q1,q2,q3⟩:=LS (P:=P) H o.type hr hb;rw[gR]at ex;have he:(execOp a.eval o).run P w= .ok (.value v') w':=by
    unfold execOp;rw[iW];simp only[ex,Nat.add_zero,Sem.run_bind];rw[q1];simp
   rw[he];exact hn μ v v' h' w' q0 q2 q3
  ·cases hr
 ·split at hr
  ·rename_i v hp;obtain⟨v',q1,q2⟩:=qR hE hg hf hp;rw[q2 w];exact hn μ _ v' _ w hr q1 (.refl H)
  ·split at hr
   ·rename_i q hq;split at hr
    ·rename_i v hv;obtain⟨v',q1,q2⟩:=u6 hE hf H hq hv;rw[q2];exact hn μ _ v' _ w hr q1 (.refl H)
    ·cases hr
   ·split at hr
    ·rename_i md hd eP;obtain⟨o',k,hv,S⟩:=oJ hE hg hf eP;rw[S.run w];have st:=Step.alloc (o:=md.obj h.size) H (EO.mk' w o') k (fun cs f di bd hh=>by cases md<;>simp[Made.obj]at hh;exact⟨hh.2.1.symm,hh.2.2.1.symm⟩) (S.obj _ _ _ _ _ (fZ H.fresh));exact hn _ _ _ _ _ hr (S.val _ _ _ (bC _ _ _)) st
    ·split at hr
     ·rename_i v h' he;obtain⟨a7,nx,v',w',q1,q2,q3,q4⟩:=yk hE hf H he;rw[q1];rcases q2 with rfl |⟨rfl,rfl⟩
      ·exact hn a7 _ v' _ w' hr q3 q4
      ·exact hn a7 _ undef _ w' hr q3 q4
     ·rename_i g args h' he;have yl:=C4 _ _ _ _ _ hr;obtain⟨args',e,q1,q2⟩:=sr hE hf H he yl;subst e;rw[q2];refine⟨hF.ok n,(uS μ h' w g args args' K out hr q1 H F (n - 1) hF).mono ?_⟩;rintro e w' ⟨v,v',h2,a7,k0,rfl,k1,k2⟩;exact hn a7 v v' h2 w' k0 k1 k2
     ·rename_i l args h' he;obtain⟨st,p,f0,ps,jX,body,hl,hlen⟩:=C5 _ _ _ _ _ hr;have hh:h'=h:=by
       obtain⟨dst,op,type,pos,after,guard⟩:=o;cases op<;>simp only[dx]at he<;>first|cases he|skip
       all_goals simp only[Option.bind_eq_some_iff,Option.some.injEq,Prod.mk.injEq,aj,reduceCtorEq,false_and,and_false,exists_false]at he
       ·obtain⟨_,_,_,_,he⟩:=he;split at he
        ·split at he<;>simp at he
        ·cases he
       ·obtain⟨_,_,he⟩:=he;split at he
        ·first|(simp at he;done)|(obtain⟨_,_,he⟩:=he;simp at he;done)|(simp only[Option.bind_eq_some_iff]at he;obtain⟨_,_,he⟩:=he;cases he)
        ·try simp only[Option.bind_eq_some_iff]at he
         obtain⟨_,_,he⟩:=he;split at he
         ·simp at he
         ·simp only[Option.some.injEq,Prod.mk.injEq]at he;exact he.2.symm
         ·cases he
        ·cases he
      subst hh;obtain⟨m,args',lo,_,hb,hw,q1,q2,q3⟩:=sw (P:=P) hf H he hl hlen;rw[q2];refine⟨hF.ok n,(C3 μ h' w l args K out m f0 ps jX body st p lo.fn _ hr hl hb H (oO q3 q1) F (n - 1) hF).mono ?_⟩;rintro e w' ⟨v,v',h2,a7,k0,rfl,k1,k2⟩;exact hn a7 v v' h2 w' k0 k1 k2
     ·cases hr
theorem zp (hE:bF P E) (uS:xW P E base B cK) (C3:zn P E base B rK) (C4:zo E cK) (C5:vJ rK) {F:Fence} (hF:hZ F) {n:Nat} {ops:Array Oper} {Q:Exit→Act→World→Prop} {K:AF→ab→Option Out} {out:Out}:∀(rest:List Oper) (k:Nat) (μ:bx) (f:AF) (h:ab) (a:Act) (w:World),
 (∀j,rest[j]? =ops[k+j]?)→Pc E base cK rK ops.toList rest f h K=some out→dj μ f a.tmps→bt E base B μ h w→
 (∀f' h' a7 a' w',K f' h'=some out→dj a7 f' a'.tmps→a'.defers=a.defers→Step E base B μ h w a7 h' w'→Q .normal a' w')→wpOpsIn F n P ops Q (List.range' k rest.length) a w
 |[],k,μ,f,h,a,w,_,ha,hf,H,hQ=>hQ _ _ μ a w ha hf rfl (.refl H)
 |o::rest,k,μ,f,h,a,w,hk,ha,hf,H,hQ=>by
  have h0:ops[k]? =some o:=by simpa using(hk 0).symm
  have kH:∀j,rest[j]? =ops[k+1+j]? :=fun j=>by have:=hk (j+1);simpa[Nat.add_assoc,Nat.add_comm 1 j]using this
  simp only[List.length_cons,List.range'_succ,wpOpsIn,h0,sx hf];simp only[Pc]at ha;split at ha
  ·rename_i hw;rw[if_pos hw];refine SE hE uS C3 C4 C5 hF hf H ha fun a7 v v' h' w' q0 q1 q2=>?_;refine zp hE uS C3 C4 C5 hF rest (k+1) a7 (f.put o.dst v) h' _ w' kH q0 ((hf.mono q2.le).put q1 o.dst) q2.rel fun f2 h2 wb a2 w2 p0 p1 p2 p3=>?_;exact hQ f2 h2 wb a2 w2 p0 p1 (by rw[p2];cases o.dst<;>rfl) (q2.trans p3)
  ·rename_i hw;rw[if_neg (by rw[hw];simp)];refine⟨fun _ _=>hF.fn _,?_⟩;refine zp hE uS C3 C4 C5 hF rest (k+1) μ (f.put o.dst undef) h _ w kH ha (hf.put (.undef μ) o.dst) H fun f2 h2 wb a2 w2 p0 p1 p2 p3=>?_;exact hQ f2 h2 wb a2 w2 p0 p1 (by rw[p2];cases o.dst<;>rfl) p3
def DM (P:Program) (E:Env) (base B k:Nat):Prop:=
 ∀(c:Code) (f:AF) (h:ab) (K:KC) (out:Out),dY E base k c f h K=some out→
  ∀(μ:bx) (a:Act) (w:World) (W0:Nat) (rs:List Nat),dj μ f a.tmps→bt E base B μ h w→b5 W0 μ w a.defers rs→W0≤w.heap.size→
  ∀(F:Fence) (n:Nat) (Q:Exit→Act→World→Prop),hZ F→(F.round=none∨bn c=true)→
  (∀ex f' h' a7 a' w' E6,K ex f' h'=some out→dj a7 f' a'.tmps→b5 W0 a7 w' a'.defers E6→Step E base B μ h w a7 h' w'→Q (p7 ex) a' w')→c.wpIn F n P Q a w
theorem F9 (run:Pd):zo E (sM E base run):=by
 intro g args h K out hr;unfold sM at hr;split at hr
 ·cases hr
 ·rename_i fn YN;rw[YN];rfl
theorem LU (run:Pd):vJ (uk base run):=by
 intro l args h K out hr;unfold uk at hr;simp only[aj]at hr;obtain⟨_,hr⟩:=hr;split at hr
 ·rename_i p f ps jX body hg;simp only[aj,Bool.and_eq_true,beq_iff]at hr;exact⟨_,_,_,_,_,_,hg,hr.1.1.1⟩
 ·cases hr
theorem Kp (hE:bF P E) (hO:ik P E base B) {k:Nat} (hk:DM P E base B k):xW P E base B (sM E base (dY E base k)):=by
 intro μ h w g args args' K out hc hr H F n hF;unfold sM at hc;split at hc
 ·cases hc
 rename_i fn h1;split at hc
 ·rename_i r ho;refine(hO μ h w g args args' r.1 r.2 ho hr H F n hF).mono ?_;rintro e w' ⟨v',a7,rfl,k1,k2⟩;exact⟨_,v',_,a7,hc,rfl,k1,k2⟩
 ·split at hc
  ·cases hc
  rename_i c h2;simp only[aj,aW]at hc;obtain⟨hn,hc⟩:=hc;obtain⟨f1,f2,f3⟩:=hE.func _ _ h1;have fin:CallsIn F.plain n P g args' w (SD E base B μ h w K out):=by
   refine callsIn_of_wp_marks f1 h2 (hF.fn _) ?_ rfl;refine hk c _ h _ out hc μ _ w w.heap.size [] (Br hr hn) H .nil (Nat.le_refl _) F.plain n _ hF.plain (.inl rfl) ?_;intro ex fe he a7 a' w' E6 q0 q1 q2 q3
   have lv:∀vs,eo E he fe fn.results.toList=some vs→K (eu vs) he=some out→LeavesInM F.plain n P fn a'.tmps (SD E base B μ h w K out) a'.defers .returning w':=fun vs h3 h4=>
    oP a'.defers E6 w' q2 q3 fun w2 s2=>by
     obtain⟨v',p1,p2⟩:=wu (P:=P) hE q1 s2.rel h3;exact⟨v',p1,_,v',_,a7,h4,rfl,p2,s2⟩
   cases ex with
   |exit id=>simp at q0
   |normal=>
    simp only at q0;split at q0
    ·rename_i vs h3;exact lv vs h3 q0
    ·cases q0
   |ret=>
    simp only at q0;split at q0
    ·rename_i vs h3;exact lv vs h3 q0
    ·cases q0
  exact fin
end
section
variable {P:Program} {E:Env} {base B:Nat}
theorem Pf {k:Nat} (hk:DM P E base B k):zn P E base B (uk base (dY E base k)):=by
 intro μ h w l args K out m f0 ps jX body st p fn tmps hr hl hb H hf F n hF;unfold uk at hr;simp only[aj,aW]at hr;obtain⟨bE,hr⟩:=hr;rw[hl]at hr;cases st with
 |ready=>
  simp only[aj,Bool.and_eq_true,beq_iff]at hr;obtain⟨⟨⟨hlen,Hz⟩,pN⟩,hr⟩:=hr;refine roundIn_of_wpIn (hF.fn _) ?_;refine hk jX _ h _ out hr μ _ w w.heap.size [] hf H .nil (Nat.le_refl _) (F.inRound m.r) n _ (hF.inRound _) (.inr Hz) ?_;intro ex1 f1 h1 gP a1 w1 tK q0 q1 q2 s1;cases ex1 with
  |exit id=>simp at q0
  |ret=>simp at q0
  |normal=>
   simp only at q0;split at q0
   ·rename_i p1 f01 Hu rG kP vd;have nh:=s1.le _ _ hb;obtain⟨YQ,e1,e2,e3,s2⟩:=nL s1.rel nh bE vd .busy p1;have Vm:Step E base B gP h1 w1 gP (h1.put l (.loop .busy p1 f01 Hu rG kP)) {w1 with heap:=w1.heap.setIfInBounds m.r (.loop {YQ with state:=.busy})}:=by
     rw[←e3]at s2 ⊢;exact s2
    refine⟨{w1 with heap:=w1.heap.setIfInBounds m.r (.loop {YQ with state:=.busy})},?_,?_⟩
    ·unfold Instr.beginRound;simp only[Sem.run_bind,run_getLoop (P:=P) e1,Result.andThen_ok,cM (P:=P) e1 (fun _ _ _=>by simp),e2,Sem.run_pure]
    refine hk body f1 _ _ out q0 gP a1 _ w.heap.size tK q1 Vm.rel (q2.step Vm) (by rw[Array.size_setIfInBounds];exact s1.grow.size) (F.inRound m.r) n _ (hF.inRound _) (.inr pN) ?_;intro ex f2 h2 xm a3 w3 rs3 q0 q3 q4 s3;have oQ:=(s1.trans Vm);have Nf:=s3.le _ _ nh;split at q0
    ·rename_i st2 p2 f02 ps2 Vl NW QZ;have key:∀(JQ:LoopState) (jump:Option Code),(jump.isNone=true→JQ= .ready)→(jump.isNone=false→JQ= .done)→∃w4,(Instr.endRound m.r jump).run P w3= .ok (.bool jump.isNone) w4∧Step E base B xm h2 w3 xm (h2.put l (.loop JQ jump f02 ps2 Vl NW)) w4:=by
      intro JQ jump hj1 Uo;obtain⟨RJ,d1,d2,d3,s4⟩:=nL s3.rel Nf bE QZ JQ jump;refine⟨_,?_,s4⟩;unfold Instr.endRound;simp only[Sem.run_bind,run_getLoop (P:=P) d1,Result.andThen_ok,cM (P:=P) d1 (fun _ _ _=>by simp),Sem.run_pure];cases hj:jump.isNone with
      |true=>rw[hj1 hj];simp
      |false=>rw[Uo hj];simp
     cases ex with
     |normal=>
      obtain⟨w4,k1,k2⟩:=key .ready none (fun _=>rfl) (fun h=>by simp at h);exact⟨_,w4,k1,_,_,_,xm,q0,rfl,.bool _ _,(oQ.trans s3).trans k2⟩
     |ret=>
      obtain⟨w4,k1,k2⟩:=key .done (some .ret) (fun h=>by simp at h) (fun _=>rfl);exact⟨_,w4,k1,_,_,_,xm,q0,rfl,.bool _ _,(oQ.trans s3).trans k2⟩
     |exit id=>
      obtain⟨w4,k1,k2⟩:=key .done (some (.exit id)) (fun h=>by simp at h) (fun _=>rfl);exact⟨_,w4,k1,_,_,_,xm,q0,rfl,.bool _ _,(oQ.trans s3).trans k2⟩
    ·cases q0
   ·cases q0
 |busy=>cases hr
 |done=>cases hr
 |exhausted=>cases hr
theorem SF (hE:bF P E) (hO:ik P E base B) (hD:C7 P E base B):∀k,DM P E base B k∧
 (∀(b:Code) (f:AF) (h:ab) (K:KC) (out:Out),dY E base k (.loop b) f h K=some out→
  ∀(μ:bx) (a:Act) (w:World) (W0:Nat) (rs:List Nat),dj μ f a.tmps→bt E base B μ h w→b5 W0 μ w a.defers rs→W0≤w.heap.size→
  ∀(F:Fence) (n:Nat) (Q:Exit→Act→World→Prop),hZ F→(F.round=none∨bn b=true)→
  (∀ex f' h' a7 a' w' E6,K ex f' h'=some out→dj a7 f' a'.tmps→b5 W0 a7 w' a'.defers E6→Step E base B μ h w a7 h' w'→Q (p7 ex) a' w')→Code.roundsIn F n P b Q k a w):=by
 intro k
 induction k with
 |zero=>exact⟨fun c f h K out hr=>by simp[dY]at hr,fun b f h K out hr=>by simp[dY]at hr⟩
 |succ k ih=>
  obtain⟨hk,NY⟩:=ih;have tL:=Kp hE hO hk;have C9:=Pf hk
  have E8:∀(b:Code) (f:AF) (h:ab) (K:KC) (out:Out),dY E base (k+1) (.loop b) f h K=some out→
   ∀(μ:bx) (a:Act) (w:World) (W0:Nat) (rs:List Nat),dj μ f a.tmps→bt E base B μ h w→b5 W0 μ w a.defers rs→W0≤w.heap.size→
   ∀(F:Fence) (n:Nat) (Q:Exit→Act→World→Prop),hZ F→(F.round=none∨bn b=true)→
   (∀ex f' h' a7 a' w' E6,K ex f' h'=some out→dj a7 f' a'.tmps→b5 W0 a7 w' a'.defers E6→Step E base B μ h w a7 h' w'→Q (p7 ex) a' w')→Code.roundsIn F n P b Q (k+1) a w:=by
   intro b f h K out hr μ a w W0 rs hf H hm hW F n Q hF mH hQ;simp only[dY]at hr;rw[roundsIn_succ];refine hk b f h _ out hr μ a w W0 rs hf H hm hW F n _ hF mH fun ex f1 h1 gP a1 w1 tK q0 q1 q2 s1=>?_;cases ex with
   |normal=>exact NY b f1 h1 K out q0 gP a1 w1 W0 tK q1 s1.rel q2 (Nat.le_trans hW s1.grow.size) F n Q hF mH fun ex f2 h2 wb a2 w2 Vn p0 p1 p2 s2=>hQ ex f2 h2 wb a2 w2 Vn p0 p1 p2 (s1.trans s2)
   |exit id=>exact hQ _ f1 h1 gP a1 w1 tK q0 q1 q2 s1
   |ret=>exact hQ _ f1 h1 gP a1 w1 tK q0 q1 q2 s1
  refine⟨?_,E8⟩;intro c f h K out hr μ a w W0 rs hf H hm hW F n Q hF mH hQ;cases c with
  |skip=>exact wpIn_skip (hQ .normal f h μ a w rs (by simpa[dY]using hr) hf hm (.refl H))
  |exit id=>exact wpIn_exit (hQ (.exit id) f h μ a w rs (by simpa[dY]using hr) hf hm (.refl H))
  |ret=>exact wpIn_ret (hQ .ret f h μ a w rs (by simpa[dY]using hr) hf hm (.refl H))
  |seq x y=>
   simp only[dY]at hr;have hx:F.round=none∨bn x=true:=mH.imp (fun h=>h) fun h=>by simp[bn]at h;exact h.1
   have hy:F.round=none∨bn y=true:=mH.imp (fun h=>h) fun h=>by simp[bn]at h;exact h.2
   refine wpIn_seq ?_;refine hk x f h _ out hr μ a w W0 rs hf H hm hW F n _ hF hx fun ex f1 h1 gP a1 w1 tK q0 q1 q2 s1=>?_;cases ex with
   |normal=>exact hk y f1 h1 K out q0 gP a1 w1 W0 tK q1 s1.rel q2 (Nat.le_trans hW s1.grow.size) F n Q hF hy fun ex f2 h2 wb a2 w2 Vn p0 p1 p2 s2=>hQ ex f2 h2 wb a2 w2 Vn p0 p1 p2 (s1.trans s2)
   |exit id=>exact hQ _ f1 h1 gP a1 w1 tK q0 q1 q2 s1
   |ret=>exact hQ _ f1 h1 gP a1 w1 tK q0 q1 q2 s1
  |cond cx x y=>
   simp only[dY]at hr;have hx:F.round=none∨bn x=true:=mH.imp (fun h=>h) fun h=>by simp[bn]at h;exact h.1
   have hy:F.round=none∨bn y=true:=mH.imp (fun h=>h) fun h=>by simp[bn]at h;exact h.2
   cases hb:(ev E f cx).bind Nv with
   |none=>rw[hb]at hr;cases hr
   |some b=>
    simp only[Option.bind_eq_some_iff]at hb;obtain⟨v,h1,h2⟩:=hb;have hb:(ev E f cx).bind Nv=some b:=by simp[h1,h2]
    rw[hb]at hr;have e:=yg h2;subst e;have hc:=(bp H.dp hf h1).ay rfl;cases b with
    |true=>exact wpIn_cond_true hc (hk x f h K out hr μ a w W0 rs hf H hm hW F n Q hF hx hQ)
    |false=>exact wpIn_cond_false hc (hk y f h K out hr μ a w W0 rs hf H hm hW F n Q hF hy hQ)
  |block id b=>
   simp only[dY]at hr;have bV:F.round=none∨bn b=true:=mH.imp (fun h=>h) fun h=>by simpa[bn]using h
   refine wpIn_block ?_;refine hk b f h _ out hr μ a w W0 rs hf H hm hW F n _ hF bV fun ex f1 h1 gP a1 w1 tK q0 q1 q2 s1=>?_;cases ex with
   |normal=>exact hQ _ f1 h1 gP a1 w1 tK q0 q1 q2 s1
   |ret=>exact hQ _ f1 h1 gP a1 w1 tK q0 q1 q2 s1
   |exit pj=>
    simp only[bZ]at q0;show(if pj=id then Q .normal a1 w1 else Q (.exit pj) a1 w1);by_cases e:pj=id
    ·rw[if_pos (beq_iff.2 e)]at q0;rw[if_pos e];exact hQ _ f1 h1 gP a1 w1 tK q0 q1 q2 s1
    ·rw[if_neg (fun hh=>e (beq_iff.1 hh))]at q0;rw[if_neg e];exact hQ _ f1 h1 gP a1 w1 tK q0 q1 q2 s1
  |loop b=>
   exact wpIn_loop_rounds (k+1) (E8 b f h K out hr μ a w W0 rs hf H hm hW F n Q hF (mH.imp (fun h=>h) fun h=>by simpa[bn]using h) hQ)
  |region id ops draw=>
   simp only[dY]at hr;cases draw with
   |false=>
    refine wpIn_region ?_;have:=zp hE tL C9 (F9 _) (LU _) hF (n:=n) (ops:=ops) (Q:=Q) ops.toList 0 μ f h a w (fun j=>by simp) hr hf H fun f' h' gP a1 w1 q0 q1 q2 s1=>hQ _ f' h' gP a1 w1 rs q0 q1 (by rw[q2];exact hm.step s1) s1;rw[List.range_eq_range',←Array.length_toList];exact this
   |true=>
    simp only at hr;split at hr
    ·rename_i ex f' h' ada;have ZU:aX E base (k+1) (.region id ops true) f h=some (ex,f',h'):=by simpa only[aX]using ada
     exact(codeOk hE hO hD (k+1)).1 _ f h ex f' h' ZU μ a w W0 rs hf H hm hW F n Q hF mH fun a7 a' w' E6 q1 q2 s1=>hQ ex f' h' a7 a' w' E6 hr q1 q2 s1
    ·cases hr
  |rangeFunc g ps jX body=>
   have EE:F.round=none:=mH.resolve_right (by simp[bn]);simp only[dY]at hr;split at hr
   ·rename_i gid first captured h1
    simp only[aj,aW]at hr;obtain⟨bE,hc⟩:=hr;have wq:=bp H.dp hf h1;generalize hq:a.eval g=q at wq;cases wq with
    |lit hh=>simp[aB]at hh
    |func t1 t2 t3 t4=>
     rename_i su jH;refine wpIn_rangeFunc fun fn _=>?_
     let wA:World:={w with heap:=w.heap.push (.deferred (some []))}
     let lo:Loop:={state:=.ready,pending:=none,fn:=fn,tmps:=a.tmps,params:=ps,assign:=jX,body:=body,defers:=w.heap.size}
     let wB:World:={wA with heap:=wA.heap.push (.loop lo)}
     have sA:Step E base B μ h w μ h wA:=Step.YO H (EO.mk' w _);have ab8:wA.heap.size=w.heap.size+1:=by simp[wA]
     have sB:=Step.alloc (o:=.loop .ready none f ps.toList jX body) sA.rel (EO.mk' wA (.loop lo)) 0 (fun _ _ _ _ hh=>by cases hh) (by
      have:=iV.loop (μ:=kl μ h.size ⟨wA.heap.size,0,0⟩) (h:=h.push (.loop .ready none f ps.toList jX body)) (base:=base) (b:=h.size) (m:=⟨wA.heap.size,0,0⟩) (st:=.ready) (p:=none) (ps:=ps.toList) (jX:=jX) (body:=body) (fn:=fn) (d:=w.heap.size) (hf.mono (fZ H.fresh));simpa using this)
     let mk:Deferred:={target:=.collected w.heap.size,args:= #[]}
     have K7:ve W0 μ wA mk w.heap.size:=⟨rfl,by simp[wA],fun b m hb he=>by have:=H.lt hb;omega,hW⟩;have RH:w.heap.size∉rs:=by
      have:∀{ds:List Deferred} {rs:List Nat},b5 W0 μ w ds rs→∀r∈rs,r<w.heap.size:=by
       intro ds rs k
       induction k with
       |nil=>intro r hr;simp at hr
       |cons h1 _ _ ih=>intro r hr;rcases List.mem_cons.1 hr with rfl |hr
                        ·exact(Array.getElem?_eq_some_iff.1 h1.obj).1
                        ·exact ih r hr
      intro fL;have:=this hm _ fL;omega
     have hmarks:b5 W0 μ wA (mk::a.defers) (w.heap.size::rs):=.cons K7 RH (hm.step sA)
     let args':Array Value:=su++ #[.func (.yield wA.heap.size) #[] #[]]++jH
     have yl:=F9 (E:=E) _ _ _ _ _ _ hc;obtain⟨YR,Vo⟩:=Option.isSome_iff_exists.1 yl;obtain⟨g1,g2,g3⟩:=hE.func _ _ Vo;have hbn:YR.body.isNone=false:=by cases hx:YR.body<;>simp_all
     have jD:aA (kl μ h.size ⟨wA.heap.size,0,0⟩) (first.toList++[.func (.yield h.size) #[] #[]]++captured.toList) args'.toList:=by
      have hle:μ.le (kl μ h.size ⟨wA.heap.size,0,0⟩):=fZ H.fresh;have v1:=(aA.oG t1 t2).mono hle;have v3:=(aA.oG t3 t4).mono hle;have v2:=aA.cons (ar.yield (bC μ h.size ⟨wA.heap.size,0,0⟩)) .nil;simpa[args']using(v1.append v2).append v3
     refine⟨wA.heap.size,[mk],wB,{target:=.fn (.func gid) jH,args:=su++ #[.func (.yield wA.heap.size) #[] #[]]},wB,gid,args',wB,?_,?_,fun _ _=>hF.fn _,?_,hF.ok n,?_⟩
     ·rw[EE];unfold Instr.enterLoop;simp only[Sem.run_bind,run_newObj,Result.andThen_ok,Sem.run_pure];rfl
     ·have Vp:∀v:Value,a.eval (.const v)=v:=fun _=>rfl;simp[resolve,hq,Deferred.ofValue,Sem.run_pure,Vp]
     ·simp only[invoke,callFunc,Sem.run_bind,run_program,Result.andThen_ok,g1,g3,hbn,Bool.false_eq_true,if_false,Sem.run_pure];rfl
     ·refine(tL _ _ wB gid _ args' _ out hc jD sB.rel F (n - 1) hF).mono ?_;rintro e w3 ⟨rv,v',h2,xm,q0,rfl,k1,s3⟩;have Nf:xm h.size=some ⟨wA.heap.size,0,0⟩:=s3.le _ _ (bC _ _ _);simp only at q0;split at q0
      ·rename_i st p f0 Rx CH tB hl;simp only[aj]at q0;obtain⟨bR,q0⟩:=q0;obtain⟨RJ,d1,d2,d3,s4⟩:=nL s3.rel Nf bE hl .exhausted p;have Vq:Step E base B xm h2 w3 xm (h2.put h.size (.loop .exhausted p f0 Rx CH tB)) {w3 with heap:=w3.heap.setIfInBounds wA.heap.size (.loop {RJ with state:=.exhausted})}:=by
        rw[←d3]at s4 ⊢;exact s4
       have oQ:=((sA.trans sB).trans s3).trans Vq;have YS:b5 W0 xm {w3 with heap:=w3.heap.setIfInBounds wA.heap.size (.loop {RJ with state:=.exhausted})} (mk::a.defers) (w.heap.size::rs):=((hmarks.step sB).step s3).step Vq;refine⟨p,{w3 with heap:=w3.heap.setIfInBounds wA.heap.size (.loop {RJ with state:=.exhausted})},?_,?_⟩
       ·unfold Instr.endLoop;simp only[Sem.run_bind,run_getLoop (P:=P) d1,Result.andThen_ok];rw[if_neg (by rw[d2];intro hh;rw[bne_iff_ne]at bR;exact bR (eq_of_beq hh))];simp only[Sem.run_bind,cM (P:=P) d1 (fun _ _ _=>by simp),Result.andThen_ok,Sem.run_pure,d3]
       ·cases p with
        |none=>exact hQ _ f _ xm _ _ _ q0 (hf.mono oQ.le) YS oQ
        |some cj=>
         exact hk cj f _ K out q0 xm {a with defers:=mk::a.defers} _ W0 _ (hf.mono oQ.le) Vq.rel YS (Nat.le_trans hW oQ.grow.size) F n Q hF (.inl EE) fun ex f5 h5 μ5 a5 w5 rs5 p0 p1 p2 s5=>hQ ex f5 h5 μ5 a5 w5 rs5 p0 p1 p2 (oQ.trans s5)
      ·cases q0
   ·cases hr
  |scope b=>simp only[dY]at hr;cases hr
  |label l=>simp only[dY]at hr;cases hr
  |goto l=>simp only[dY]at hr;cases hr
  |refuse s=>simp only[dY]at hr;cases hr
theorem zq (hE:bF P E) (hO:ik P E base B) (hm:P.follows .mixedOrders=true) (n:Nat):xW P E base B (Ko E base n):=
 Kp hE hO (SF hE hO (JU hE hm) n).1
end
def SG (base:Nat):KV:=fun v h'=>match v with
 | .slice (some ⟨b,o,some z⟩) len _=>(an h' b o (len*z)).bind fun cs=>bO (Nat.ble base b&&Nat.blt 0 len&&cs.all scalar) (some (.bool false::goInt len::goInt z::cs))
 |v=>bO (aB v) (some [.bool true,v])
def B0 (h:ab):Out→Option (Value×ab)
 |[.bool true,v]=>bO (aB v) (some (v,h))
 | .bool false:: .int _ (.ofNat len):: .int _ (.ofNat z)::cs=>some (.slice (some ⟨h.size,0,some z⟩) len (len+1),h.push (.cells cs h.size (h.size+1) 0))
 |_=>none
noncomputable def Ga (E:Env) (n:Nat):fg:=fun g args h=>(Ko E h.size n g args h (SG h.size)).bind (B0 h)
theorem bt.ext {E:Env} {base B:Nat} {μ:bx} {h:ab} {w w':World} (H:bt E base B μ h w) (hs:w.heap.size≤w'.heap.size) (hk:∀r,r<w.heap.size→w'.heap[r]? =w.heap[r]?):bt E base B μ h w':=
 ⟨H.gS,H.high,fun b m hb=>by
  obtain⟨p,p',k1,k2,k3⟩:=H.obj b m hb;exact⟨p,p',k1,by rw[hk _ (H.lt hb)];exact k2,k3⟩,H.own,H.alias,H.dU,H.dp,Nat.le_trans H.low hs,H.mA,H.wf,H.root⟩
theorem bt.IQ {E E0:Env} {base B:Nat} {μ:bx} {h:ab} {w:World} (H:bt E base B μ h w) (hg:∀g,E0.dp g=true→E.dp g=true):bt E0 h.size w.heap.size μ h w:=
 ⟨H.gS,H.high,fun b m hb=>by
  obtain⟨p,p',k1,k2,k3⟩:=H.obj b m hb;have hd:=H.gS b m hb;refine⟨p,p',k1,k2,?_⟩;cases k3 with
  |cells hn hl hf hc=>exact .cells hn hl (fun h=>by omega) hc
  |map hs=>exact .map hs
  |jB hs=>exact .jB hs
  |nb hs=>exact .nb hs
  |du hk hs=>exact .du hk hs
  |loop hf=>exact .loop hf
  |eQ hp hs hc hn=>exact .eQ hp hs hc hn,fun b m hb sm=>by have:=H.gS b m hb;omega,fun b1 b2 m1 m2 h1 h2 _ _ sm=>by have:=H.gS b1 m1 h1;have:=H.gS b2 m2 h2;omega,H.dU,fun g YW=>H.dp g (hg g YW),Nat.le_refl _,Nat.le_refl _,H.wf,H.root⟩
section
variable {P:Program} {E E0:Env} {base B:Nat}
theorem zr {μ:bx} {h hX:ab} {w:World} (H:bt E base B μ h w) (_:hX.size=h.size) {out:Out} {v:Value} {h':ab} (iE:B0 h out=some (v,h')) {u u':Value} {h1:ab} {gP:bx} {w':World}
 (hK:SG h.size u h1=some out) (hv:ar gP u u') (S:Step E0 h.size w.heap.size μ hX w gP h1 w'):la E base B μ h w v h' (.returned u') w':=by
 have hold:∀r,r<w.heap.size→w'.heap[r]? =w.heap[r]? :=fun r ni=>S.grow.bA r ni fun b m hb _=>H.gS b m hb;have Hx:=H.ext S.grow.size hold;have gr:Grow base μ w w':=⟨S.grow.tape,S.grow.os,S.grow.output,S.grow.size,fun r ni _=>hold r ni⟩;have plain:∀v:Value,aB v=true→B0 h [.bool true,v]=some (v,h):=fun v hp=>by simp[B0,bO,hp]
 unfold SG at hK;split at hK
 ·rename_i b o z len cap;simp only[Option.bind_eq_some_iff,aj,Bool.and_eq_true,aW,ba,Option.some.injEq]at hK;obtain⟨cs,gA,⟨⟨sm,hlen⟩,hsc⟩,rfl⟩:=hK;simp only[B0,goInt,Option.some.injEq,Prod.mk.injEq]at iE;obtain⟨rfl,rfl⟩:=iE;cases hv with
  |lit hh=>simp[aB]at hh
  |df hb=>omega
  |slice hb q1 q2 q3 q4=>
   rename_i cap' m;obtain⟨o1,o2,k1,k2,k3⟩:=S.rel.obj b m hb;obtain⟨rc1,rc2⟩:=S.rel.an hb gA;have IS:w.heap.size≤m.r:=by
    have hn:μ b=none:=by
     cases hx:μ b with
     |none=>rfl
     |some mx=>have:=H.gS b mx hx;omega
    rcases(S.new b m hn hb).2.2 with h5|⟨b0,m0,r1,r2,_⟩
    ·exact h5
    ·have:=H.gS b0 m0 r2;omega
   let m2:MT:=⟨m.r,m.s+o,m.n⟩
   have Hp:=Hx.Fc (o:=.cells cs h.size (h.size+1) 0) (fun _ _ _ _ hh=>by cases hh;rfl);have fo:(h.push (.cells cs h.size (h.size+1) 0)).get h.size=some (.cells cs h.size (h.size+1) 0):=by rw[ab.au,if_pos rfl]
   obtain⟨c0,e0,We,Lf,Uh,uS,uc⟩:∃c e fr,w'.heap[m.r]? =some (.cells c e fr)∧c.size=m.n∧pW fr m.n∧(∀(i:Nat) v,cs[i]? =some v→∃v',c[m.s+o+i]? =some v'∧ar gP v v'):=by
    have IT:=gA;unfold M.an at IT;simp only[Option.bind_eq_some_iff]at IT;obtain⟨Kg,Az,_⟩:=IT;obtain⟨c,e,fr,t1,t2,t3,t4,t5⟩:=S.rel.read hb Az;refine⟨c,e,fr,t1,t2,t4 sm,fun i v hv=>?_⟩;obtain⟨v',s1,s2⟩:=rc2 i v hv;refine⟨v',?_,s2⟩;simpa[World.cell?,t1]using s1
   have hle:m.s+o+cs.length≤m.n:=by
    rw[rc1];have:len*z≤cap'*z:=Nat.mul_le_mul_right z q2;omega
   have UJ:∀(i:Nat) v,cs[i]? =some v→scalar v=true:=fun i v hv=>List.all_eq_true.1 hsc v (List.mem_of_getElem? hv);have ho:iV (kl μ h.size m2) (h.push (.cells cs h.size (h.size+1) 0)) base h.size m2 (.cells cs h.size (h.size+1) 0) (.cells c0 e0 We):=by
    refine .cells Uh hle (fun _=>uS) fun _ i v hv=>?_;obtain⟨v',s1,s2⟩:=uc i v hv;have:=s2.ay (UJ i v hv);subst this;exact⟨v',s1,.qP _ (UJ i v' hv)⟩
   have Ht:=Hp.Bu (b:=h.size) (m:=m2) (by simp[ab.size_push]) fo H.fresh H.mA (by have:=H.low;show B≤m.r;omega) Lf
    (fun d md hd he=>by have:=H.lt hd;simp only[m2]at he;omega) (fun _ _ _ _ hh=>by cases hh;exact⟨rfl,om⟩) (fun _ _ hh=>by simp at hh) ho
   refine⟨_,kl μ h.size m2,rfl,?_,Ht,gr,fZ H.fresh,fun d md h0 hd=>?_,fun d hd _=>by rw[ab.au,if_neg om],by simp[ab.size_push]⟩
   ·have:=ar.slice (μ:=kl μ h.size m2) (b:=h.size) (o:=0) (z:=z) (len:=len) (cap:=len+1) (cap':=cap') (m:=m2) (bC _ _ _) om q2 (fun h=>by omega) (by simpa[m2]using q4);simpa[m2]using this
   ·by_cases ed:d=h.size
    ·subst ed;rw[bC]at hd;cases hd;exact⟨Nat.le_refl _,H.mA,.inl IS⟩
    ·rw[ng _ _ ed,h0]at hd;cases hd
 ·simp only[aj,Option.some.injEq]at hK;obtain⟨hp,rfl⟩:=hK;rw[plain _ hp]at iE;simp only[Option.some.injEq,Prod.mk.injEq]at iE;obtain⟨rfl,rfl⟩:=iE;have:u'=u:=by cases u<;>simp[aB]at hp<;>cases hv<;>first|rfl |simp_all
  subst this;exact⟨u',μ,rfl,.lit hp,Hx,gr,μ.le_refl,fun b m h0 h1=>(by rw[h0]at h1;cases h1),fun _ _ _=>rfl,Nat.le_refl _⟩
theorem Pg (ZV:bF P E0) (hO:∀base B,ik P E0 base B) (hm:P.follows .mixedOrders=true) (hg:∀g,E0.dp g=true→E.dp g=true) (k:Nat):kG P E base B (Ga E0 k):=by
 intro μ h w g args args' v h' hc hr H F n hF;unfold Ga at hc;simp only[Option.bind_eq_some_iff]at hc;obtain⟨out,iD,iE⟩:=hc;have H2:=H.IQ hg;refine(zq ZV (hO _ _) hm k μ h w g args args' _ out iD hr H2 F n hF).mono ?_;rintro e w' ⟨u,u',h1,gP,hK,rfl,hv,S⟩;exact zr H rfl iE hK hv S
end
noncomputable def aeB (P:Program) (fs:List Nat) (n:Nat):FuncId→List Value→ab→Option (Value×ab):=fun g args h=>
 match fs.contains g with
 |true=>Ga (eL P po) n g args h
 |false=>none
def SH (x:Int):List Int→List Int
 |[]=>[x]
 |y::l=>bif Int.blt' x y then x::y::l else y::SH x l
where Int.blt' (x y:Int):Bool:=decide (x<y)
def wN:List Int→List Int
 |[]=>[]
 |x::l=>SH x (wN l)
theorem B2 (x:Int):∀l,(SH x l).Perm (x::l)
 |[]=>.refl _
 |y::l=>by
  unfold SH;rw[bZ];split
  ·exact .refl _
  ·exact((B2 x l).cons y).trans (.swap x y l)
theorem zt:∀l,(wN l).Perm l
 |[]=>.refl _
 |x::l=>(B2 x _).trans ((zt l).cons x)
def wO:List Value→Option (List Int)
 |[]=>some []
 | .int .i64 x::l=>(wO l).bind fun r=>some (x::r)
 |_=>none
theorem zu:∀{l:List Value} {r:List Int},wO l=some r→l=r.map (.int .i64)
 |[],r,h=>by simp[wO]at h;subst h;rfl
 | .int .i64 x::l,r,h=>by
  simp only[wO,Option.bind_eq_some_iff,Option.some.injEq]at h;obtain⟨r',h1,rfl⟩:=h;rw[zu h1];rfl
def ZW (base:Nat):KV:=fun v h'=>match v with
 | .slice (some ⟨b,o,some 1⟩) len _=>(an h' b o len).bind fun cs=>(wO cs).bind fun xs=>bO (Nat.ble base b&&Nat.blt 0 len) (some (.bool false::goInt len::(wN xs).map (.int .i64)))
 |v=>bO (aB v) (some [.bool true,v])
def SI (h:ab):Out→Option (Value×ab)
 |[.bool true,v]=>bO (aB v) (some (v,h))
 | .bool false:: .int _ (.ofNat len)::cs=>(wO cs).bind fun xs=>some (.slice (some ⟨h.size,0,some 1⟩) len (len+1),h.push (.eQ xs))
 |_=>none
noncomputable def DN (E:Env) (n:Nat):fg:=fun g args h=>(Ko E h.size n g args h (ZW h.size)).bind (SI h)
theorem B3:∀l:List Int,wO (l.map (.int .i64))=some l
 |[]=>rfl
 |x::l=>by simp[wO,B3 l]
section
variable {P:Program} {E E0:Env} {base B:Nat}
theorem LV (ZV:bF P E0) (hO:∀base B,ik P E0 base B) (hm:P.follows .mixedOrders=true) (hg:∀g,E0.dp g=true→E.dp g=true) (k:Nat):kG P E base B (DN E0 k):=by
 intro μ h w g args args' v h' hc hr H F n hF;unfold DN at hc;simp only[Option.bind_eq_some_iff]at hc;obtain⟨out,iD,iE⟩:=hc;have H2:=H.IQ hg;refine(zq ZV (hO _ _) hm k μ h w g args args' _ out iD hr H2 F n hF).mono ?_;rintro e w' ⟨u,u',h1,gP,hK,rfl,hv,S⟩;have hold:∀r,r<w.heap.size→w'.heap[r]? =w.heap[r]? :=fun r ni=>S.grow.bA r ni fun b m hb _=>H.gS b m hb;have Hx:=H.ext S.grow.size hold;have gr:Grow base μ w w':=⟨S.grow.tape,S.grow.os,S.grow.output,S.grow.size,fun r ni _=>hold r ni⟩;have plain:∀v:Value,aB v=true→SI h [.bool true,v]=some (v,h):=fun v hp=>by simp[SI,bO,hp]
 unfold ZW at hK;split at hK
 ·rename_i b o len cap;simp only[Option.bind_eq_some_iff,aj,Bool.and_eq_true,aW,ba,Option.some.injEq]at hK;obtain⟨cs,gA,xs,Nb,⟨sm,hlen⟩,rfl⟩:=hK;have tj:=zu Nb;simp only[SI,goInt,B3,Option.bind_some,Option.some.injEq,Prod.mk.injEq]at iE;obtain⟨rfl,rfl⟩:=iE;cases hv with
  |lit hh=>simp[aB]at hh
  |df hb=>omega
  |slice hb q1 q2 q3 q4=>
   rename_i cap' m;obtain⟨rc1,rc2⟩:=S.rel.an hb gA;have IS:w.heap.size≤m.r:=by
    have hn:μ b=none:=by
     cases hx:μ b with
     |none=>rfl
     |some mx=>have:=H.gS b mx hx;omega
    rcases(S.new b m hn hb).2.2 with h5|⟨b0,m0,r1,r2,_⟩
    ·exact h5
    ·have:=H.gS b0 m0 r2;omega
   let m2:MT:=⟨m.r,m.s+o,m.n⟩
   have Hp:=Hx.Fc (o:=.eQ (wN xs)) (fun _ _ _ _ hh=>by cases hh);have fo:(h.push (.eQ (wN xs))).get h.size=some (.eQ (wN xs)):=by rw[ab.au,if_pos rfl]
   obtain⟨c0,e0,We,Lf,Uh,uc⟩:∃c e fr,w'.heap[m.r]? =some (.cells c e fr)∧c.size=m.n∧(∀(i:Nat) v,cs[i]? =some v→∃v',c[m.s+o+i]? =some v'∧ar gP v v'):=by
    have IT:=gA;unfold M.an at IT;simp only[Option.bind_eq_some_iff]at IT;obtain⟨Kg,Az,_⟩:=IT;obtain⟨c,e,fr,t1,t2,t3,t4,t5⟩:=S.rel.read hb Az;refine⟨c,e,fr,t1,t2,fun i v hv=>?_⟩;obtain⟨v',s1,s2⟩:=rc2 i v hv;refine⟨v',?_,s2⟩;simpa[World.cell?,t1]using s1
   have hxl:xs.length=len:=by rw[←rc1,tj];simp
   have ho:iV (kl μ h.size m2) (h.push (.eQ (wN xs))) base h.size m2 (.eQ (wN xs)) (.cells c0 e0 We):=by
    refine .eQ (l:=xs) (zt xs).symm (by show m.s+o+xs.length≤m.n;omega) (fun i x hx=>?_) Uh;obtain⟨v',s1,s2⟩:=uc i (.int .i64 x) (by rw[tj];simp[hx]);have:=s2.ay rfl;subst this;exact s1
   have Ht:=Hp.Bu (b:=h.size) (m:=m2) (by simp[ab.size_push]) fo H.fresh H.mA (by have:=H.low;show B≤m.r;omega) Lf
    (fun d md hd he=>by have:=H.lt hd;simp only[m2]at he;omega) (fun _ _ _ _ hh=>by cases hh) (fun _ _ hh=>by cases hh) ho
   refine⟨_,kl μ h.size m2,rfl,?_,Ht,gr,fZ H.fresh,fun d md h0 hd=>?_,fun d hd _=>by rw[ab.au,if_neg om],by simp[ab.size_push]⟩
   ·have:=ar.slice (μ:=kl μ h.size m2) (b:=h.size) (o:=0) (z:=1) (len:=len) (cap:=len+1) (cap':=cap') (m:=m2) (bC _ _ _) om q2 (fun h=>by omega) (by simpa[m2]using q4);simpa[m2]using this
   ·by_cases ed:d=h.size
    ·subst ed;rw[bC]at hd;cases hd;exact⟨Nat.le_refl _,H.mA,.inl IS⟩
    ·rw[ng _ _ ed,h0]at hd;cases hd
 ·simp only[aj,Option.some.injEq]at hK;obtain⟨hp,rfl⟩:=hK;rw[plain _ hp]at iE;simp only[Option.some.injEq,Prod.mk.injEq]at iE;obtain⟨rfl,rfl⟩:=iE;have:u'=u:=by cases u<;>simp[aB]at hp<;>cases hv<;>first|rfl |simp_all
  subst this;exact⟨u',μ,rfl,.lit hp,Hx,gr,μ.le_refl,fun b m h0 h1=>(by rw[h0]at h1;cases h1),fun _ _ _=>rfl,Nat.le_refl _⟩
end
def vK (x:Int):List Int→List (List Int)
 |[]=>[[x]]
 |y::l=>(x::y::l)::(vK x l).map (y::·)
def perms:List Int→List (List Int)
 |[]=>[[]]
 |x::l=>(perms l).flatMap (vK x)
theorem zw (x:Int):∀a b:List Int,a++x::b∈vK x (a++b)
 |[],[]=>by simp[vK]
 |[],y::b=>by simp[vK]
 |y::a,b=>by
  simp only[List.cons_append,vK,List.mem_cons,List.mem_map];exact .inr ⟨_,zw x a b,rfl⟩
theorem B4:∀{cs l:List Int},l.Perm cs→l∈perms cs
 |[],l,h=>by simp[perms,h.eq_nil]
 |x::cs,l,h=>by
  have hx:x∈l:=h.mem_iff.2 List.mem_cons_self;obtain⟨a,b,rfl⟩:=List.append_of_mem hx;have hp:(a++b).Perm cs:=(List.perm_middle.symm.trans h).cons_inv;simp only[perms,List.mem_flatMap];exact⟨a++b,B4 hp,zw x a b⟩
def um (h:ab):List Value→Option (Nat×List Int)
 |[]=>none
 | .slice (some ⟨b,_,some _⟩) _ cap::l=>(match Nat.beq cap 0,h.get b with
  |false,some (.eQ cs)=>some (b,cs)
  |_,_=>um h l)
 |_::l=>um h l
def IU (h:ab) (b:Nat):Bool:=(List.range h.size).all fun c=>match h.get c with
 |some (.cells _ f _ _)=> !Nat.beq f b
 |_=>true
noncomputable def DO (E:Env) (n:Nat):fg:=fun g args h=>(um h args).bind fun r=>bO (Nat.blt r.1 h.size&&IU h r.1)<|
 (meet ((perms r.2).map fun l=>Ko E h.size n g args (h.put r.1 (.cells (l.map (.int .i64)) r.1 h.size 0)) (SG h.size))).bind (B0 h)
theorem LW {h:ab} {args:List Value} {r:Nat×List Int} (hr:um h args=some r):h.get r.1=some (.eQ r.2):=by
 induction args with
 |nil=>simp[um]at hr
 |cons v l ih=>
  unfold um at hr;split at hr
  ·cases hr
  ·rename_i b o z len cap l' heq;simp only[List.cons.injEq]at heq;obtain⟨_,rfl⟩:=heq;split at hr
   ·rename_i cs hg;simp only[Option.some.injEq]at hr;subst hr;exact hg
   ·exact ih hr
  ·rename_i v' l' _ heq;simp only[List.cons.injEq]at heq;obtain⟨_,rfl⟩:=heq;exact ih hr
section
variable {P:Program} {E E0:Env} {base B:Nat}
theorem bt.ZX {μ:bx} {h:ab} {w:World} (H:bt E base B μ h w) (adf:∀b,b<h.size→b<base) {b:Nat} {m:MT} (hb:μ b=some m) {cs:List Int} (hg:h.get b=some (.eQ cs)) (hn:IU h b=true):
 ∃l:List Int,l.Perm cs∧bt E base B μ (h.put b (.cells (l.map (.int .i64)) b h.size 0)) w:=by
 obtain⟨p,p',k1,k2,k3⟩:=H.obj b m hb;rw[hg]at k1;cases k1;have hbs:=H.gS b m hb;cases k3 with
 |eQ hp hl hc Uh=>
  rename_i c e fr l;refine⟨l,hp,?_⟩;have cL:∀c cs' f t th,h.get c=some (.cells cs' f t th)→f≠b:=by
   intro c cs' f t th vi ZY;have tj:c<h.size:=by
    rcases Nat.lt_or_ge c h.size with h1|h1
    ·exact h1
    ·rw[H.high c h1]at vi;cases vi
   unfold IU at hn;have:=List.all_eq_true.1 hn c (List.mem_range.2 tj);rw[vi]at this;simp[ZY]at this
  have DP:∀c,c≠b→(h.put b (.cells (l.map (.int .i64)) b h.size 0)).get c=h.get c:=fun c hc=>by rw[ab.e6,if_neg hc]
  have rH:(h.put b (.cells (l.map (.int .i64)) b h.size 0)).get b=some (.cells (l.map (.int .i64)) b h.size 0):=by rw[ab.e6,if_pos rfl]
  have nJ:∀c,c≠b→(h.put b (.cells (l.map (.int .i64)) b h.size 0)).dU c=h.dU c:=by
   intro c hc;apply tD;intro r;obtain⟨f,di,bd⟩:=r;rw[iy,iy];constructor
   ·rintro⟨cs',t0,gX,c0,q1,q2⟩;rw[DP c hc]at q1;have ZY:=cL _ _ _ _ _ q1;rw[DP f ZY]at q2;exact⟨cs',t0,gX,c0,q1,q2⟩
   ·rintro⟨cs',t0,gX,c0,q1,q2⟩;have ZY:=cL _ _ _ _ _ q1;exact⟨cs',t0,gX,c0,by rw[DP c hc];exact q1,by rw[DP f ZY];exact q2⟩
  have UK:h.dU b=none:=by
   cases hf:h.dU b with
   |none=>rfl
   |some r=>obtain⟨cs',t,th,q⟩:=ef hf;rw[hg]at q;cases q
  have Wl:(h.put b (.cells (l.map (.int .i64)) b h.size 0)).dU b=some (b,h.size,0):=cG rH rH;have u3:∀c,c≠b→(h.put b (.cells (l.map (.int .i64)) b h.size 0)).cellsOf c=h.cellsOf c:=fun c hc=>by unfold ab.cellsOf;rw[DP c hc]
  have gA:∀c,c≠b→(h.put b (.cells (l.map (.int .i64)) b h.size 0)).rd c=h.rd c:=fun c hc=>by unfold ab.rd;rw[nJ c hc,u3 c hc]
  have hlen:∀c,c≠b→lenOf (h.put b (.cells (l.map (.int .i64)) b h.size 0)) c=lenOf h c:=fun c hc=>by unfold lenOf;rw[u3 c hc]
  refine⟨H.gS,fun c hc=>by rw[DP c (by simp only[ab.size_put]at hc;omega)];exact H.high c hc,fun c mc hc=>?_,H.own,fun b1 b2 m1 m2 h1 h2 hr bH sm=>?_,fun c mc r hc hr=>?_,H.dp,H.low,H.mA,fun c cs' f t th vi=>?_,fun c mc cs' th hc vi=>?_⟩
  ·by_cases ec:c=b
   ·subst ec;rw[hb]at hc;cases hc;refine⟨_,_,rH,k2,.cells Uh (by simpa using hl) (fun h9=>?_) fun _ i v hv=>?_⟩
    ·have:=adf c hbs;omega
    ·rw[List.getElem?_map,Option.map_eq_some_iff]at hv;obtain⟨x,hx,rfl⟩:=hv;exact⟨_,hc i x hx,.int μ _ _⟩
   ·obtain⟨q,q',j1,j2,j3⟩:=H.obj c mc hc;exact⟨q,q',by rw[DP c ec];exact j1,j2,j3.mono μ.le_refl (by rw[gA c ec];exact id)⟩
  ·obtain⟨r,q1,q2,q3⟩:=H.alias b1 b2 m1 m2 h1 h2 hr bH sm;have e1:b1≠b:=fun e=>by subst e;rw[UK]at q1;cases q1
   have e2:b2≠b:=fun e=>by subst e;rw[UK]at q2;cases q2
   exact⟨r,by rw[nJ b1 e1];exact q1,by rw[nJ b2 e2];exact q2,by rw[hlen b1 e1,hlen b2 e2];exact q3⟩
  ·by_cases ec:c=b
   ·subst ec;rw[Wl]at hr;cases hr;exact⟨Nat.le_of_lt hbs,Nat.le_refl _,m,hb⟩
   ·rw[nJ c ec]at hr;exact H.dU c mc r hc hr
  ·by_cases ec:c=b
   ·subst ec;rw[rH]at vi;cases vi;exact Nat.le_refl _
   ·rw[DP c ec]at vi;exact H.wf _ _ _ _ _ vi
  ·by_cases ec:c=b
   ·subst ec;rw[rH]at vi;simp only[Option.some.injEq,fH.cells.injEq]at vi;omega
   ·rw[DP c ec]at vi;exact H.root _ _ _ _ hc vi
theorem LX {μ:bx} {h:ab} {args args':List Value} (hr:aA μ args args') {b:Nat} {cs:List Int} (hb:um h args=some (b,cs)):∃m,μ b=some m:=by
 induction hr with
 |nil=>simp[um]at hb
 |cons hv _ ih=>
  unfold um at hb;split at hb
  ·cases hb
  ·rename_i b0 o z len cap l' heq;simp only[List.cons.injEq]at heq;obtain⟨rfl,rfl⟩:=heq;split at hb
   ·rename_i cs' hz hg;simp only[Option.some.injEq,Prod.mk.injEq]at hb;obtain⟨rfl,rfl⟩:=hb;cases hv with
    |lit hh=>simp[aB]at hh
    |slice h1=>exact⟨_,h1⟩
    |df h1=>exact h1 (by rintro rfl;simp at hz)
   ·exact ih hb
  ·rename_i v' l' _ heq;simp only[List.cons.injEq]at heq;obtain⟨_,rfl⟩:=heq;exact ih hb
theorem LY (ZV:bF P E0) (hO:∀base B,ik P E0 base B) (hm:P.follows .mixedOrders=true) (hg:∀g,E0.dp g=true→E.dp g=true) (k:Nat):kG P E base B (DO E0 k):=by
 intro μ h w g args args' v h' hc hr H F n hF;unfold DO at hc;simp only[Option.bind_eq_some_iff,aj,Bool.and_eq_true,ba]at hc;obtain⟨⟨b,cs⟩,ZZ,⟨aN,RH⟩,out,Z0,iE⟩:=hc;obtain⟨m,hb⟩:=LX hr ZZ;have fo:=LW ZZ;have H2:=H.IQ hg;obtain⟨l,hl,H3⟩:=H2.ZX (fun _ h=>h) hb fo RH;have iD:=BZ Z0 _ (List.mem_map_of_mem (B4 hl));refine(zq ZV (hO _ _) hm k μ _ w g args args' _ out iD hr H3 F n hF).mono ?_;rintro e w' ⟨u,u',h1,gP,hK,rfl,hv,S⟩;exact zr (hX:=h.put b (.cells (l.map (.int .i64)) b h.size 0)) H rfl iE hK hv S
end
noncomputable def sN (P:Program) (fs bs ps:List Nat) (n:Nat):FuncId→List Value→ab→Option (Value×ab):=fun g args h=>
 match fs.contains g with
 |true=>Ga (eL P po) n g args h
 |false=>match bs.contains g with
  |true=>DN (eL P po) n g args h
  |false=>match ps.contains g with
   |true=>DO (eL P po) n g args h
   |false=>none
theorem LZ {P:Program} (hm:P.follows .mixedOrders=true) (fs bs ps:List Nat) (n base B:Nat):ik P (eL P (sN P fs bs ps n)) base B:=by
 intro μ h w g args args' v h' hc hr H F k hF;have lT:sN P fs bs ps n g args h=some (v,h'):=hc;unfold sN at lT;split at lT
 ·exact Pg (E:=eL P (sN P fs bs ps n)) (yx P po) (fun _ _=>yA) hm (fun _ hg=>hg) n μ h w g args args' v h' lT hr H F k hF
 ·split at lT
  ·exact LV (E:=eL P (sN P fs bs ps n)) (yx P po) (fun _ _=>yA) hm (fun _ hg=>hg) n μ h w g args args' v h' lT hr H F k hF
  ·split at lT
   ·exact LY (E:=eL P (sN P fs bs ps n)) (yx P po) (fun _ _=>yA) hm (fun _ hg=>hg) n μ h w g args args' v h' lT hr H F k hF
   ·cases lT
end Go.M
