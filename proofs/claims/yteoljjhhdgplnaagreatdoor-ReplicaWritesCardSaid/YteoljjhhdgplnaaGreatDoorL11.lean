/-
  Part 11 of the library that the proof leans on.
-/
import Derived.Test.YteoljjhhdgplnaaGreatDoorL4
namespace Go.M
open Go
abbrev Out:=List Value
abbrev KV:=Value→ah→Option Out
abbrev oL:=FuncId→List Value→ah→KV→Option Out
abbrev lW:=Nat→List Value→ah→KV→Option Out
abbrev KC:=Ex→AF→ah→Option Out
def meet:List (Option Out)→Option Out
 |[]=>none
 |x::xs=>x.bind fun o=>bp (xs.all fun y=>match y with|some o'=>fw o o'|none=>false) (some o)
def vw (h:ah) (r base:Nat) (K:KV):Option Out:=
 bp (Nat.ble base r)<|
 match h.get r with
 |some (.bY none _ _ _)=>K (.tuple #[.bool false]) h
 |some (.bY (some m) since seen last)=>(match h.get m with
  |some (.map es clock)=>
   bp (!(!seen.isEmpty&& !es.isEmpty&&es.all (fun e=>Nat.ble last e.born)))<|
   (match es.filter (fun e=> !seen.contains e.born)with
   |[]=>K (.tuple #[.bool false]) h
   |e::l=>meet ((e::l).map fun e=>bp (Nat.blt e.born since) (K (.tuple #[.bool true,e.key,e.val]) (h.put r (.bY (some m) since (seen++[e.born]) clock)))))
  |_=>none)
 |_=>none
def xU (E:Env) (base:Nat) (cK:oL) (rK:lW) (o:Oper) (f:AF) (h:ah) (K:KV):Option Out:=
 match o.op with
 | .next it false=>(match(ev E f it).bind ly with
  |some r=>vw h r base K
  |none=>none)
 |_=>
  match aB E f o with
  |some v=>K v h
  |none=>match bt E f o with
   |some q=>(match q.run h with|some v=>K v h|none=>none)
   |none=>match aV E f o with
    |some (m,hd)=>K (hd.val h.size) (h.push (m.obj h.size))
    |none=>match cH E base f o h with
     |some (.val v,h')=>K v h'
     |some (.enter g args,h')=>cK g args h' K
     |some (.round l args,h')=>rK l args h' K
     |none=>none
def mA (E:Env) (base:Nat) (cK:oL) (rK:lW) (ops:List Oper):List Oper→AF→ah→(AF→ah→Option Out)→Option Out
 |[],f,h,K=>K f h
 |o::rest,f,h,K=>
  match wanted ops o f with
  |true=>xU E base cK rK o f h fun v h'=>mA E base cK rK ops rest (f.put o.dst v) h' K
  |false=>mA E base cK rK ops rest (f.put o.dst undef) h K
abbrev Hv:=Code→AF→ah→KC→Option Out
def dE (E:Env) (base:Nat) (run:Hv):oL:=fun g args h K=>
 match E.func g with
 |none=>none
 |some fn=>match E.tc base g args h with
  |some r=>K r.1 r.2
  |none=>match fn.body with
   |none=>none
   |some c=>bp (Nat.ble args.length fn.ntmps)<|run c (AF.enter args fn.ntmps) h fun ex f h'=>
    match ex with
    | .exit _=>none
    |_=>match cL E h' f fn.results.toList with
     |some vs=>K (cz vs) h'
     |none=>none
def im (base:Nat) (run:Hv):lW:=fun l args h K=>
 bp (Nat.ble base l)<|
 match h.get l with
 |some (.loop .ready _ f ps gO body)=>bp (Nat.beq ps.length args.length&&aO gO&&aO body)<|
  run gO (AF.iK (ps.zip args) f) h fun ex f1 h1=>
   (match ex with
   | .normal=>(match h1.get l with
    |some (.loop .ready p1 f0 jS oq iR)=>
     run body f1 (h1.put l (.loop .busy p1 f0 jS oq iR)) fun Sd _ h2=>
      (match h2.get l with
      |some (.loop _ _ f0 jS oq iR)=>
       (match Sd with
       | .normal=>K (.bool true) (h2.put l (.loop .ready none f0 jS oq iR))
       | .ret=>K (.bool false) (h2.put l (.loop .done (some .ret) f0 jS oq iR))
       | .exit id=>K (.bool false) (h2.put l (.loop .done (some (.exit id)) f0 jS oq iR)))
      |_=>none)
    |_=>none)
   |_=>none)
 |_=>none
noncomputable def aA (E:Env) (base:Nat):Nat→Hv
 |0,_,_,_,_=>none
 |n+1,c,f,h,K=>
  match c with
  | .skip=>K .normal f h
  | .region _ ops draw=>(match draw with
   |false=>mA E base (dE E base (aA E base n)) (im base (aA E base n)) ops.toList ops.toList f h fun f' h'=>K .normal f' h'
   |true=>(match jT E base (aS E base n) ops true f h with
    |some (ex,f',h')=>K ex f' h'
    |none=>none))
  | .seq a b=>aA E base n a f h fun ex f' h'=>(match ex with
   | .normal=>aA E base n b f' h' K
   |ex=>K ex f' h')
  | .cond c t e=>(match(ev E f c).bind Av with
   |some true=>aA E base n t f h K
   |some false=>aA E base n e f h K
   |none=>none)
  | .block id b=>aA E base n b f h fun ex f' h'=>(match ex with
   | .exit lh=>bif Nat.beq lh id then K .normal f' h' else K (.exit lh) f' h'
   |ex=>K ex f' h')
  | .loop b=>aA E base n b f h fun ex f' h'=>(match ex with
   | .normal=>aA E base n (.loop b) f' h' K
   |ex=>K ex f' h')
  | .exit id=>K (.exit id) f h
  | .ret=>K .ret f h
  | .rangeFunc g ps gO body=>(match ev E f g with
   |some (.func (.func g) first captured)=>bp (Nat.ble base h.size)<|
    dE E base (aA E base n) g (first.toList++[.func (.yield h.size) #[] #[]]++captured.toList) (h.push (.loop .ready none f ps.toList gO body)) fun _ h1=>
     (match h1.get h.size with
     |some (.loop st p f0 I4 tf ma)=>bp (st != .busy) (match p with
      |none=>K .normal f (h1.put h.size (.loop .exhausted p f0 I4 tf ma))
      |some c=>aA E base n c f (h1.put h.size (.loop .exhausted p f0 I4 tf ma)) K)
     |_=>none)
   |_=>none)
  |_=>none
noncomputable def FM (E:Env) (base n:Nat):oL:=dE E base (aA E base n)
section
variable {P:Program} {E:Env} {μ:ba} {f:AF} {a:Act} {base B:Nat} {h:ah} {w:World}
theorem b9.get' {l l':List MapEntry} (hs:b9 μ l l'):∀(i:Nat) (e':MapEntry),l'[i]? =some e'→∃e,l[i]? =some e∧an μ e.key e'.key∧an μ e.val e'.val∧e.born=e'.born:=by
 induction hs with
 |nil=>intro i e' h;simp at h
 |cons q1 q2 q3 _ ih=>
  intro i e' h;cases i with
  |zero=>simp at h;subst h;exact⟨_,rfl,q1,q2,q3⟩
  |succ i=>simpa using ih i e' (by simpa using h)
theorem wZ (n:Nat) (hn:0<n) (w:World):∃i d,i<n∧(choose (.mapNext n)).run P w= .ok i {w with drawn:=d}:=by
 rw[run_choose];by_cases hf:(Question.mapNext n).forced=true
 ·rw[if_pos hf];exact⟨0,w.drawn,hn,rfl⟩
 ·rw[if_neg hf];exact⟨_,w.drawn+1,Nat.mod_lt _ hn,rfl⟩
theorem xV {l:List (Option Out)} {o:Out} (h:meet l=some o):∀x∈l,x=some o:=by
 cases l with
 |nil=>intro x hx;simp at hx
 |cons y ys=>
  simp only[meet,Option.bind_eq_some_iff,aj,Option.some.injEq,List.all_eq_true]at h;obtain⟨o',rfl,h2,rfl⟩:=h;intro x hx;rcases List.mem_cons.1 hx with rfl |hx
  ·rfl
  ·have:=h2 x hx;cases x with
   |none=>simp at this
   |some o2=>simp only at this;rw[nO this]
theorem Hy (H:aX E base B μ h w) {r:Nat} {m:MT} {K:KV} {out:Out} (ty:TypeId) (hk:vw h r base K=some out) (hb:μ r=some m):
 ∃v h' v' w',K v h'=some out∧(Instr.next (.pointer (some ⟨m.r,0,none⟩)) false ty).run P w= .ok v' w'∧an μ v v'∧Step E base B μ h w μ h' w':=by
 unfold vw at hk;simp only[aj,az]at hk;obtain⟨bh,hk⟩:=hk;obtain⟨o1,o2,k1,k2,k3⟩:=H.obj r m hb;split at hk
 ·rename_i since seen last hg;rw[hg]at k1;cases k1;cases k3 with
  |ke iu=>
   have nM:=run_getObj_map (P:=P) k2 (fun _ _ _=>by simp);refine⟨_,_,_,w,hk,?_,.da (by simpa using aq.cons (.bool μ false) .nil),.refl H⟩;unfold Instr.next;simp only[Sem.run_bind,nM,Result.andThen_ok];rfl
 ·rename_i mm since seen last hg;rw[hg]at k1;cases k1;cases k3 with
  |bY hkm iu=>
   rename_i mk;have nM:=run_getObj_map (P:=P) k2 (fun _ _ _=>by simp);split at hk
   ·rename_i es clock JB;obtain⟨p1,p2,j1,j2,j3⟩:=H.obj mm mk hkm;rw[JB]at j1;cases j1;cases j3 with
    |map hs=>
     rename_i bD;have Dc:=run_getObj_map (P:=P) j2 (fun _ _ _=>by simp);simp only[aj]at hk;obtain⟨nK,hk⟩:=hk;have hlen:=hs.length;have Rf:bD.isEmpty=es.isEmpty:=by
      cases es<;>cases h9:bD.toList<;>rw[h9]at hlen<;>simp at hlen
      ·have:bD= #[]:=by apply Array.ext';simp[h9]
       simp[this]
      ·have:bD.size≠0:=by have:=congrArg List.length h9;simp at this;omega
       simp[Array.isEmpty,this]
     have kf:(bD.all fun e=>decide (e.born≥last))=es.all (fun e=>Nat.ble last e.born):=by
      rw[←Array.all_toList,←hs.AZ (fun n=>decide (n≥last))]
      congr 1
      funext e
      rw[Bool.eq_iff_iff,az];simp
     have A0:(!seen.toArray.isEmpty&& !bD.isEmpty&&bD.all fun e=>decide (e.born≥last))=false:=by
      rw[Rf,kf];have:seen.toArray.isEmpty=seen.isEmpty:=by cases seen<;>simp
      rw[this];simpa only[Bool.not_eq_true']using nK
     have ot:=hs.filter (fun n=> !seen.contains n);have xj:(bD.filter fun e=> !seen.toArray.contains e.born).toList=bD.toList.filter (fun e=> !seen.contains e.born):=by
      simp
     generalize hL:(bD.filter fun e=> !seen.toArray.contains e.born)=left at xj;split at hk
     ·rename_i hf;rw[hf]at ot;have tI:left= #[]:=by
       apply Array.ext';rw[xj];cases uo:bD.toList.filter (fun e=> !seen.contains e.born)with
       |nil=>rfl
       |cons x y=>rw[uo]at ot;cases ot
      refine⟨_,_,_,w,hk,?_,.da (by simpa using aq.cons (.bool μ false) .nil),.refl H⟩;unfold Instr.next;simp only[Sem.run_bind,nM,Dc,Result.andThen_ok,A0,Bool.false_eq_true,if_false,hL,tI];simp[Question.forced]
     ·rename_i e0 l0 hf;rw[←hf]at hk;rw[←xj]at ot;have E6:=xV hk;have hk:∀e∈es.filter (fun e=> !seen.contains e.born),e.born<since∧K (.tuple #[.bool true,e.key,e.val]) (h.put r (.bY (some mm) since (seen++[e.born]) clock))=some out:=fun e he=>by
       have:=E6 _ (List.mem_map_of_mem he);simp only[aj,aI]at this;exact this
      have eY:0<left.size:=by
       have:=ot.length;rw[hf]at this;simp at this;omega
      have hold:∀x∈left,x.born<since:=by
       intro x hx;obtain⟨i,hi⟩:=List.mem_iff_getElem?.1 (by simpa using hx:x∈left.toList);obtain⟨e,h1,_,_,h4⟩:=ot.get' i x hi;rw[←h4];exact(hk e (List.mem_of_getElem? h1)).1
      have f1:(left.filter fun x=>decide (x.born<since))=left:=by
       apply Array.filter_eq_self.2;intro x hx;simpa using hold x hx
      have f2:(left.filter fun x=>decide (x.born≥since))= #[]:=by
       apply Array.filter_eq_empty_iff.2;intro x hx;have:=hold x hx;simp;omega
      have f3:left.isEmpty=false:=by
       cases hle:left.isEmpty with
       |false=>rfl
       |true=>
        have:left= #[]:=by simpa using hle
        rw[this]at eY;simp at eY
      obtain⟨i,d,hi,Sz⟩:=wZ (P:=P) left.size eY w;have hgi:=Array.getElem?_eq_getElem hi;obtain⟨e,h1,h2,h3,h4⟩:=ot.get' i left[i] (by rw[Array.getElem?_toList];exact hgi);obtain⟨hbe,hKe⟩:=hk e (List.mem_of_getElem? h1);have Hd:=H.congr (w':={w with drawn:=d}) rfl;have Jz:=fun o=>bP (P:=P) (w:={w with drawn:=d}) (o:=o) k2 (fun _ _ _=>by simp);have st:=Step.put (o:=.bY (some mm) since (seen++[e.born]) clock) Hd hb bh hg rfl rfl (yY.set {w with drawn:=d} m.r (.mapIter (some mk.r) since (seen.toArray.push left[i].born) clock) (Hd.lt hb)) (by
       have:=gP.bY (μ:=μ) (h:=h.put r (.bY (some mm) since (seen++[e.born]) clock)) (base:=base) (b:=r) (m:=m) (since:=since) (last:=clock) (seen:=seen++[e.born]) hkm iu;rw[h4]at this ⊢;simpa using this)
      refine⟨_,_,_,_,hKe,?_,.da (by simpa using aq.cons (.bool μ true) (.cons h2 (.cons h3 .nil))),(Step.drawn H d).trans st⟩;unfold Instr.next;simp only[Sem.run_bind,nM,Dc,Result.andThen_ok,A0,Bool.false_eq_true,if_false,hL,f1,f2,f3];have f4:(#[]++(left++ #[]).map some:Array (Option MapEntry))=left.map some:=by simp
      rw[f4];simp only[Array.size_map,Sz,Result.andThen_ok,Array.getElem?_map,hgi,Option.map_some,Sem.run_bind,Jz,Sem.run_pure]
   ·cases hk
 ·cases hk
end
def On (E:Env) (base B:Nat) (μ:ba) (h:ah) (w:World) (K:KV) (out:Out):Ending→World→Prop:=
 fun e w'=>∃v v' h' aK,K v h'=some out∧e= .returned v'∧an aK v v'∧Step E base B μ h w aK h' w'
def tW (P:Program) (E:Env) (base B:Nat) (cK:oL):Prop:=
 ∀(μ:ba) (h:ah) (w:World) (g:FuncId) (args:List Value) (args':Array Value) (K:KV) (out:Out),cK g args h K=some out→aq μ args args'.toList→aX E base B μ h w→
  ∀(F:Fence) (n:Nat),fT F→CallsIn F n P g args' w (On E base B μ h w K out)
def vx (P:Program) (E:Env) (base B:Nat) (rK:lW):Prop:=
 ∀(μ:ba) (h:ah) (w:World) (l:Nat) (args:List Value) (K:KV) (out:Out) (m:MT) (f0:AF) (ps:List Tmp) (gO body:Code) (st:LoopState) (p:Option Code) (fn:FuncId) (tmps:Array Value),
  rK l args h K=some out→h.get l=some (.loop st p f0 ps gO body)→μ l=some m→aX E base B μ h w→cB μ (AF.iK (ps.zip args) f0) tmps→
  ∀(F:Fence) (n:Nat),fT F→RoundIn F n P m.r fn tmps gO body w (On E base B μ h w K out)
def vy (E:Env) (cK:oL):Prop:=∀g args h K out,cK g args h K=some out→(E.func g).isSome=true
def rR (rK:lW):Prop:=∀l args h K out,rK l args h K=some out→∃st p f0 ps gO body,h.get l=some (.loop st p f0 ps gO body)∧ps.length=args.length
section
variable {P:Program} {E:Env} {μ:ba} {f:AF} {a:Act} {base B:Nat} {h:ah} {w:World} {cK:oL} {rK:lW}
theorem KN {o:Oper} {K:KV} {out:Out} {k:ah} (h:xU E base cK rK o f k K=some out):∀c,o.op≠ .defer c:=by
 intro c hc;unfold xU at h;simp only[aB,bt,aV,cH,hc]at h;cases h
theorem Oo (hE:bl P E) (wK:tW P E base B cK) (zi:vx P E base B rK) (zj:vy E cK) (zk:rR rK) {F:Fence} (hF:fT F) {n:Nat} (hf:cB μ f a.tmps) (H:aX E base B μ h w) {o:Oper} {K:KV} {out:Out} (hr:xU E base cK rK o f h K=some out)
 {next:Act→World→Prop} {Q:Exit→Act→World→Prop} (hn:∀aK v v' h' w',K v h'=some out→an aK v v'→Step E base B μ h w aK h' w'→next (a.put o.dst v') w'):o.wpIn F n P a w next Q:=by
 have hg:fB E μ:=H.cW;refine⟨fun _ _=>hF.fn _,?_⟩;rw[Oper.semAt_eq _ _ _ (KN hr)];unfold xU at hr;split at hr
 ·rename_i it jb;split at hr
  ·rename_i r hit;simp only[Option.bind_eq_some_iff]at hit;obtain⟨v1,h1,h2⟩:=hit;have e:=mS h2;subst e;obtain⟨m,hb,ex⟩:=(aT hg hf h1).iX;have iu:m.s=0:=by
    obtain⟨o1,o2,k1,k2,k3⟩:=H.obj r m hb;unfold vw at hr;simp only[aj]at hr;have Ay:=hr.2;cases k3 with
    |gU hs=>exact hs
    |ke hs=>exact hs
    |bY _ hs=>exact hs
    |_=>rw[k1]at Ay;simp at Ay
   obtain⟨v,h',v',w',q0,q1,q2,q3⟩:=Hy (P:=P) H o.type hr hb;rw[iu]at ex;have he:(execOp a.eval o).run P w= .ok (.value v') w':=by
    unfold execOp;rw[jb];simp only[ex,Nat.add_zero,Sem.run_bind];rw[q1];simp
   rw[he];exact hn μ v v' h' w' q0 q2 q3
  ·cases hr
 ·split at hr
  ·rename_i v hp;obtain⟨v',q1,q2⟩:=nL hE hg hf hp;rw[q2 w];exact hn μ _ v' _ w hr q1 (.refl H)
  ·split at hr
   ·rename_i q hq;split at hr
    ·rename_i v hv;obtain⟨v',q1,q2⟩:=qZ hE hf H hq hv;rw[q2];exact hn μ _ v' _ w hr q1 (.refl H)
    ·cases hr
   ·split at hr
    ·rename_i md hd c9;obtain⟨o',k,hv,S⟩:=lC hE hg hf c9;rw[S.run w];have st:=Step.alloc (o:=md.obj h.size) H (AO.mk' w o') k (fun cs f cu aF hh=>by cases md<;>simp[Made.obj]at hh;exact⟨hh.2.1.symm,hh.2.2.1.symm⟩) (S.obj _ _ _ _ _ (fA H.fresh));exact hn _ _ _ _ _ hr (S.val _ _ _ (bB _ _ _)) st
    ·split at hr
     ·rename_i v h' he;obtain⟨aK,nx,v',w',q1,q2,q3,q4⟩:=ur hE hf H he;rw[q1];rcases q2 with rfl |⟨rfl,rfl⟩
      ·exact hn aK _ v' _ w' hr q3 q4
      ·exact hn aK _ undef _ w' hr q3 q4
     ·rename_i g args h' he;have uu:=zj _ _ _ _ _ hr;obtain⟨args',e,q1,q2⟩:=o5 hE hf H he uu;subst e;rw[q2];refine⟨hF.ok n,(wK μ h' w g args args' K out hr q1 H F (n - 1) hF).mono ?_⟩;rintro e w' ⟨v,v',h2,aK,k0,rfl,k1,k2⟩;exact hn aK v v' h2 w' k0 k1 k2
     ·rename_i l args h' he;obtain⟨st,p,f0,ps,gO,body,hl,hlen⟩:=zk _ _ _ _ _ hr;have hh:h'=h:=by
       obtain⟨dst,op,type,pos,after,guard⟩:=o;cases op<;>simp only[cH]at he<;>first|cases he|skip
       all_goals simp only[Option.bind_eq_some_iff,Option.some.injEq,Prod.mk.injEq,aj,reduceCtorEq,false_and,and_false,exists_false]at he
       ·obtain⟨_,_,_,_,he⟩:=he;split at he
        ·split at he<;>simp at he
        ·cases he
       ·obtain⟨_,_,he⟩:=he;split at he
        ·first|(simp at he;done)|(obtain⟨_,_,he⟩:=he;simp at he;done)|(simp only[Option.bind_eq_some_iff]at he;obtain⟨_,_,he⟩:=he;cases he)
        ·try simp only[Option.bind_eq_some_iff]at he
         obtain⟨_,_,he⟩:=he;split at he
         ·simp at he
         ·simp only[Option.some.injEq,Prod.mk.injEq]at he;exact he.2.symm
         ·cases he
        ·cases he
      subst hh;obtain⟨m,args',lo,_,hb,hw,q1,q2,q3⟩:=o7 (P:=P) hf H he hl hlen;rw[q2];refine⟨hF.ok n,(zi μ h' w l args K out m f0 ps gO body st p lo.fn _ hr hl hb H (lI q3 q1) F (n - 1) hF).mono ?_⟩;rintro e w' ⟨v,v',h2,aK,k0,rfl,k1,k2⟩;exact hn aK v v' h2 w' k0 k1 k2
     ·cases hr
theorem vz (hE:bl P E) (wK:tW P E base B cK) (zi:vx P E base B rK) (zj:vy E cK) (zk:rR rK) {F:Fence} (hF:fT F) {n:Nat} {ops:Array Oper} {Q:Exit→Act→World→Prop} {K:AF→ah→Option Out} {out:Out}:∀(rest:List Oper) (k:Nat) (μ:ba) (f:AF) (h:ah) (a:Act) (w:World),
 (∀j,rest[j]? =ops[k+j]?)→mA E base cK rK ops.toList rest f h K=some out→cB μ f a.tmps→aX E base B μ h w→
 (∀f' h' aK a' w',K f' h'=some out→cB aK f' a'.tmps→a'.defers=a.defers→Step E base B μ h w aK h' w'→Q .normal a' w')→wpOpsIn F n P ops Q (List.range' k rest.length) a w
 |[],k,μ,f,h,a,w,_,ha,hf,H,hQ=>hQ _ _ μ a w ha hf rfl (.refl H)
 |o::rest,k,μ,f,h,a,w,hk,ha,hf,H,hQ=>by
  have h0:ops[k]? =some o:=by simpa using(hk 0).symm
  have nN:∀j,rest[j]? =ops[k+1+j]? :=fun j=>by have:=hk (j+1);simpa[Nat.add_assoc,Nat.add_comm 1 j]using this
  simp only[List.length_cons,List.range'_succ,wpOpsIn,h0,o8 hf];simp only[mA]at ha;split at ha
  ·rename_i hw;rw[if_pos hw];refine Oo hE wK zi zj zk hF hf H ha fun aK v v' h' w' q0 q1 q2=>?_;refine vz hE wK zi zj zk hF rest (k+1) aK (f.put o.dst v) h' _ w' nN q0 ((hf.mono q2.le).put q1 o.dst) q2.rel fun f2 h2 su a2 w2 p0 p1 p2 p3=>?_;exact hQ f2 h2 su a2 w2 p0 p1 (by rw[p2];cases o.dst<;>rfl) (q2.trans p3)
  ·rename_i hw;rw[if_neg (by rw[hw];simp)];refine⟨fun _ _=>hF.fn _,?_⟩;refine vz hE wK zi zj zk hF rest (k+1) μ (f.put o.dst undef) h _ w nN ha (hf.put (.undef μ) o.dst) H fun f2 h2 su a2 w2 p0 p1 p2 p3=>?_;exact hQ f2 h2 su a2 w2 p0 p1 (by rw[p2];cases o.dst<;>rfl) p3
def z5 (P:Program) (E:Env) (base B k:Nat):Prop:=
 ∀(c:Code) (f:AF) (h:ah) (K:KC) (out:Out),aA E base k c f h K=some out→
  ∀(μ:ba) (a:Act) (w:World) (W0:Nat) (rs:List Nat),cB μ f a.tmps→aX E base B μ h w→bE W0 μ w a.defers rs→W0≤w.heap.size→
  ∀(F:Fence) (n:Nat) (Q:Exit→Act→World→Prop),fT F→(F.round=none∨aO c=true)→
  (∀ex f' h' aK a' w' A4,K ex f' h'=some out→cB aK f' a'.tmps→bE W0 aK w' a'.defers A4→Step E base B μ h w aK h' w'→Q (mT ex) a' w')→c.wpIn F n P Q a w
theorem BX (run:Hv):vy E (dE E base run):=by
 intro g args h K out hr;unfold dE at hr;split at hr
 ·cases hr
 ·rename_i fn U4;rw[U4];rfl
theorem Hz (run:Hv):rR (im base run):=by
 intro l args h K out hr;unfold im at hr;simp only[aj]at hr;obtain⟨_,hr⟩:=hr;split at hr
 ·rename_i p f ps gO body hg;simp only[aj,Bool.and_eq_true,beq_iff]at hr;exact⟨_,_,_,_,_,_,hg,hr.1.1.1⟩
 ·cases hr
theorem FN (hE:bl P E) (hO:iy P E base B) {k:Nat} (hk:z5 P E base B k):tW P E base B (dE E base (aA E base k)):=by
 intro μ h w g args args' K out hc hr H F n hF;unfold dE at hc;split at hc
 ·cases hc
 rename_i fn h1;split at hc
 ·rename_i r ho;refine(hO μ h w g args args' r.1 r.2 ho hr H F n hF).mono ?_;rintro e w' ⟨v',aK,rfl,k1,k2⟩;exact⟨_,v',_,aK,hc,rfl,k1,k2⟩
 ·split at hc
  ·cases hc
  rename_i c h2;simp only[aj,az]at hc;obtain⟨hn,hc⟩:=hc;obtain⟨f1,f2,f3⟩:=hE.func _ _ h1;have fin:CallsIn F.plain n P g args' w (On E base B μ h w K out):=by
   refine callsIn_of_wp_marks f1 h2 (hF.fn _) ?_ rfl;refine hk c _ h _ out hc μ _ w w.heap.size [] (xk hr hn) H .nil (Nat.le_refl _) F.plain n _ hF.plain (.inl rfl) ?_;intro ex fe he aK a' w' A4 q0 q1 q2 q3
   have lv:∀vs,cL E he fe fn.results.toList=some vs→K (cz vs) he=some out→LeavesInM F.plain n P fn a'.tmps (On E base B μ h w K out) a'.defers .returning w':=fun vs h3 h4=>
    lJ a'.defers A4 w' q2 q3 fun w2 s2=>by
     obtain⟨v',p1,p2⟩:=sC (P:=P) hE q1 s2.rel h3;exact⟨v',p1,_,v',_,aK,h4,rfl,p2,s2⟩
   cases ex with
   |exit id=>simp at q0
   |normal=>
    simp only at q0;split at q0
    ·rename_i vs h3;exact lv vs h3 q0
    ·cases q0
   |ret=>
    simp only at q0;split at q0
    ·rename_i vs h3;exact lv vs h3 q0
    ·cases q0
  exact fin
end
section
variable {P:Program} {E:Env} {base B:Nat}
theorem KP {k:Nat} (hk:z5 P E base B k):vx P E base B (im base (aA E base k)):=by
 intro μ h w l args K out m f0 ps gO body st p fn tmps hr hl hb H hf F n hF;unfold im at hr;simp only[aj,az]at hr;obtain⟨bh,hr⟩:=hr;rw[hl]at hr;cases st with
 |ready=>
  simp only[aj,Bool.and_eq_true,beq_iff]at hr;obtain⟨⟨⟨hlen,CV⟩,mD⟩,hr⟩:=hr;refine roundIn_of_wpIn (hF.fn _) ?_;refine hk gO _ h _ out hr μ _ w w.heap.size [] hf H .nil (Nat.le_refl _) (F.inRound m.r) n _ (hF.inRound _) (.inr CV) ?_;intro ex1 f1 h1 e7 a1 w1 pW q0 q1 q2 s1;cases ex1 with
  |exit id=>simp at q0
  |ret=>simp at q0
  |normal=>
   simp only at q0;split at q0
   ·rename_i p1 YE jS oq iR CU;have oW:=s1.le _ _ hb;obtain⟨U7,e1,e2,e3,s2⟩:=kI s1.rel oW bh CU .busy p1;have Ri:Step E base B e7 h1 w1 e7 (h1.put l (.loop .busy p1 YE jS oq iR)) {w1 with heap:=w1.heap.setIfInBounds m.r (.loop {U7 with state:=.busy})}:=by
     rw[←e3]at s2 ⊢;exact s2
    refine⟨{w1 with heap:=w1.heap.setIfInBounds m.r (.loop {U7 with state:=.busy})},?_,?_⟩
    ·unfold Instr.beginRound;simp only[Sem.run_bind,run_getLoop (P:=P) e1,Result.andThen_ok,bP (P:=P) e1 (fun _ _ _=>by simp),e2,Sem.run_pure]
    refine hk body f1 _ _ out q0 e7 a1 _ w.heap.size pW q1 Ri.rel (q2.step Ri) (by rw[Array.size_setIfInBounds];exact s1.grow.size) (F.inRound m.r) n _ (hF.inRound _) (.inr mD) ?_;intro ex f2 h2 tt a3 w3 rs3 q0 q3 q4 s3;have lK:=(s1.trans Ri);have I9:=s3.le _ _ oW;split at q0
    ·rename_i st2 p2 YF sD Rh JG E4;have key:∀(E5:LoopState) (jump:Option Code),(jump.isNone=true→E5= .ready)→(jump.isNone=false→E5= .done)→∃w4,(Instr.endRound m.r jump).run P w3= .ok (.bool jump.isNone) w4∧Step E base B tt h2 w3 tt (h2.put l (.loop E5 jump YF sD Rh JG)) w4:=by
      intro E5 jump YG P9;obtain⟨NF,d1,d2,d3,s4⟩:=kI s3.rel I9 bh E4 E5 jump;refine⟨_,?_,s4⟩;unfold Instr.endRound;simp only[Sem.run_bind,run_getLoop (P:=P) d1,Result.andThen_ok,bP (P:=P) d1 (fun _ _ _=>by simp),Sem.run_pure];cases hj:jump.isNone with
      |true=>rw[YG hj];simp
      |false=>rw[P9 hj];simp
     cases ex with
     |normal=>
      obtain⟨w4,k1,k2⟩:=key .ready none (fun _=>rfl) (fun h=>by simp at h);exact⟨_,w4,k1,_,_,_,tt,q0,rfl,.bool _ _,(lK.trans s3).trans k2⟩
     |ret=>
      obtain⟨w4,k1,k2⟩:=key .done (some .ret) (fun h=>by simp at h) (fun _=>rfl);exact⟨_,w4,k1,_,_,_,tt,q0,rfl,.bool _ _,(lK.trans s3).trans k2⟩
     |exit id=>
      obtain⟨w4,k1,k2⟩:=key .done (some (.exit id)) (fun h=>by simp at h) (fun _=>rfl);exact⟨_,w4,k1,_,_,_,tt,q0,rfl,.bool _ _,(lK.trans s3).trans k2⟩
    ·cases q0
   ·cases q0
 |busy=>cases hr
 |done=>cases hr
 |exhausted=>cases hr
theorem Oq (hE:bl P E) (hO:iy P E base B) (hD:zm P E base B):∀k,z5 P E base B k∧
 (∀(b:Code) (f:AF) (h:ah) (K:KC) (out:Out),aA E base k (.loop b) f h K=some out→
  ∀(μ:ba) (a:Act) (w:World) (W0:Nat) (rs:List Nat),cB μ f a.tmps→aX E base B μ h w→bE W0 μ w a.defers rs→W0≤w.heap.size→
  ∀(F:Fence) (n:Nat) (Q:Exit→Act→World→Prop),fT F→(F.round=none∨aO b=true)→
  (∀ex f' h' aK a' w' A4,K ex f' h'=some out→cB aK f' a'.tmps→bE W0 aK w' a'.defers A4→Step E base B μ h w aK h' w'→Q (mT ex) a' w')→Code.roundsIn F n P b Q k a w):=by
 intro k
 induction k with
 |zero=>exact⟨fun c f h K out hr=>by simp[aA]at hr,fun b f h K out hr=>by simp[aA]at hr⟩
 |succ k ih=>
  obtain⟨hk,JH⟩:=ih;have pX:=FN hE hO hk;have zo:=KP hk
  have A6:∀(b:Code) (f:AF) (h:ah) (K:KC) (out:Out),aA E base (k+1) (.loop b) f h K=some out→
   ∀(μ:ba) (a:Act) (w:World) (W0:Nat) (rs:List Nat),cB μ f a.tmps→aX E base B μ h w→bE W0 μ w a.defers rs→W0≤w.heap.size→
   ∀(F:Fence) (n:Nat) (Q:Exit→Act→World→Prop),fT F→(F.round=none∨aO b=true)→
   (∀ex f' h' aK a' w' A4,K ex f' h'=some out→cB aK f' a'.tmps→bE W0 aK w' a'.defers A4→Step E base B μ h w aK h' w'→Q (mT ex) a' w')→Code.roundsIn F n P b Q (k+1) a w:=by
   intro b f h K out hr μ a w W0 rs hf H hm hW F n Q hF uw hQ;simp only[aA]at hr;rw[roundsIn_succ];refine hk b f h _ out hr μ a w W0 rs hf H hm hW F n _ hF uw fun ex f1 h1 e7 a1 w1 pW q0 q1 q2 s1=>?_;cases ex with
   |normal=>exact JH b f1 h1 K out q0 e7 a1 w1 W0 pW q1 s1.rel q2 (Nat.le_trans hW s1.grow.size) F n Q hF uw fun ex f2 h2 su a2 w2 Rj p0 p1 p2 s2=>hQ ex f2 h2 su a2 w2 Rj p0 p1 p2 (s1.trans s2)
   |exit id=>exact hQ _ f1 h1 e7 a1 w1 pW q0 q1 q2 s1
   |ret=>exact hQ _ f1 h1 e7 a1 w1 pW q0 q1 q2 s1
  refine⟨?_,A6⟩;intro c f h K out hr μ a w W0 rs hf H hm hW F n Q hF uw hQ;cases c with
  |skip=>exact wpIn_skip (hQ .normal f h μ a w rs (by simpa[aA]using hr) hf hm (.refl H))
  |exit id=>exact wpIn_exit (hQ (.exit id) f h μ a w rs (by simpa[aA]using hr) hf hm (.refl H))
  |ret=>exact wpIn_ret (hQ .ret f h μ a w rs (by simpa[aA]using hr) hf hm (.refl H))
  |seq x y=>
   simp only[aA]at hr;have hx:F.round=none∨aO x=true:=uw.imp (fun h=>h) fun h=>by simp[aO]at h;exact h.1
   have hy:F.round=none∨aO y=true:=uw.imp (fun h=>h) fun h=>by simp[aO]at h;exact h.2
   refine wpIn_seq ?_;refine hk x f h _ out hr μ a w W0 rs hf H hm hW F n _ hF hx fun ex f1 h1 e7 a1 w1 pW q0 q1 q2 s1=>?_;cases ex with
   |normal=>exact hk y f1 h1 K out q0 e7 a1 w1 W0 pW q1 s1.rel q2 (Nat.le_trans hW s1.grow.size) F n Q hF hy fun ex f2 h2 su a2 w2 Rj p0 p1 p2 s2=>hQ ex f2 h2 su a2 w2 Rj p0 p1 p2 (s1.trans s2)
   |exit id=>exact hQ _ f1 h1 e7 a1 w1 pW q0 q1 q2 s1
   |ret=>exact hQ _ f1 h1 e7 a1 w1 pW q0 q1 q2 s1
  |cond cx x y=>
   simp only[aA]at hr;have hx:F.round=none∨aO x=true:=uw.imp (fun h=>h) fun h=>by simp[aO]at h;exact h.1
   have hy:F.round=none∨aO y=true:=uw.imp (fun h=>h) fun h=>by simp[aO]at h;exact h.2
   cases hb:(ev E f cx).bind Av with
   |none=>rw[hb]at hr;cases hr
   |some b=>
    simp only[Option.bind_eq_some_iff]at hb;obtain⟨v,h1,h2⟩:=hb;have hb:(ev E f cx).bind Av=some b:=by simp[h1,h2]
    rw[hb]at hr;have e:=uj h2;subst e;have hc:=(aT H.cW hf h1).ao rfl;cases b with
    |true=>exact wpIn_cond_true hc (hk x f h K out hr μ a w W0 rs hf H hm hW F n Q hF hx hQ)
    |false=>exact wpIn_cond_false hc (hk y f h K out hr μ a w W0 rs hf H hm hW F n Q hF hy hQ)
  |block id b=>
   simp only[aA]at hr;have bJ:F.round=none∨aO b=true:=uw.imp (fun h=>h) fun h=>by simpa[aO]using h
   refine wpIn_block ?_;refine hk b f h _ out hr μ a w W0 rs hf H hm hW F n _ hF bJ fun ex f1 h1 e7 a1 w1 pW q0 q1 q2 s1=>?_;cases ex with
   |normal=>exact hQ _ f1 h1 e7 a1 w1 pW q0 q1 q2 s1
   |ret=>exact hQ _ f1 h1 e7 a1 w1 pW q0 q1 q2 s1
   |exit lh=>
    simp only[bG]at q0;show(if lh=id then Q .normal a1 w1 else Q (.exit lh) a1 w1);by_cases e:lh=id
    ·rw[if_pos (beq_iff.2 e)]at q0;rw[if_pos e];exact hQ _ f1 h1 e7 a1 w1 pW q0 q1 q2 s1
    ·rw[if_neg (fun hh=>e (beq_iff.1 hh))]at q0;rw[if_neg e];exact hQ _ f1 h1 e7 a1 w1 pW q0 q1 q2 s1
  |loop b=>
   exact wpIn_loop_rounds (k+1) (A6 b f h K out hr μ a w W0 rs hf H hm hW F n Q hF (uw.imp (fun h=>h) fun h=>by simpa[aO]using h) hQ)
  |region id ops draw=>
   simp only[aA]at hr;cases draw with
   |false=>
    refine wpIn_region ?_;have:=vz hE pX zo (BX _) (Hz _) hF (n:=n) (ops:=ops) (Q:=Q) ops.toList 0 μ f h a w (fun j=>by simp) hr hf H fun f' h' e7 a1 w1 q0 q1 q2 s1=>hQ _ f' h' e7 a1 w1 rs q0 q1 (by rw[q2];exact hm.step s1) s1;rw[List.range_eq_range',←Array.length_toList];exact this
   |true=>
    simp only at hr;split at hr
    ·rename_i ex f' h' ZK;have Wj:aS E base (k+1) (.region id ops true) f h=some (ex,f',h'):=by simpa only[aS]using ZK
     exact(codeOk hE hO hD (k+1)).1 _ f h ex f' h' Wj μ a w W0 rs hf H hm hW F n Q hF uw fun aK a' w' A4 q1 q2 s1=>hQ ex f' h' aK a' w' A4 hr q1 q2 s1
    ·cases hr
  |rangeFunc g ps gO body=>
   have CW:F.round=none:=uw.resolve_right (by simp[aO]);simp only[aA]at hr;split at hr
   ·rename_i gid first captured h1
    simp only[aj,az]at hr;obtain⟨bh,hc⟩:=hr;have wv:=aT H.cW hf h1;generalize hq:a.eval g=q at wv;cases wv with
    |lit hh=>simp[ar]at hh
    |func t1 t2 t3 t4=>
     rename_i o6 gZ;refine wpIn_rangeFunc fun fn _=>?_
     let wA:World:={w with heap:=w.heap.push (.deferred (some []))}
     let lo:Loop:={state:=.ready,pending:=none,fn:=fn,tmps:=a.tmps,params:=ps,assign:=gO,body:=body,defers:=w.heap.size}
     let wB:World:={wA with heap:=wA.heap.push (.loop lo)}
     have sA:Step E base B μ h w μ h wA:=Step.U5 H (AO.mk' w _);have YH:wA.heap.size=w.heap.size+1:=by simp[wA]
     have sB:=Step.alloc (o:=.loop .ready none f ps.toList gO body) sA.rel (AO.mk' wA (.loop lo)) 0 (fun _ _ _ _ hh=>by cases hh) (by
      have:=gP.loop (μ:=jk μ h.size ⟨wA.heap.size,0,0⟩) (h:=h.push (.loop .ready none f ps.toList gO body)) (base:=base) (b:=h.size) (m:=⟨wA.heap.size,0,0⟩) (st:=.ready) (p:=none) (ps:=ps.toList) (gO:=gO) (body:=body) (fn:=fn) (d:=w.heap.size) (hf.mono (fA H.fresh));simpa using this)
     let mk:Deferred:={target:=.collected w.heap.size,args:= #[]}
     have Uc:rq W0 μ wA mk w.heap.size:=⟨rfl,by simp[wA],fun b m hb he=>by have:=H.lt hb;omega,hW⟩;have NC:w.heap.size∉rs:=by
      have:∀{ds:List Deferred} {rs:List Nat},bE W0 μ w ds rs→∀r∈rs,r<w.heap.size:=by
       intro ds rs k
       induction k with
       |nil=>intro r hr;simp at hr
       |cons h1 _ _ ih=>intro r hr;rcases List.mem_cons.1 hr with rfl |hr
                        ·exact(Array.getElem?_eq_some_iff.1 h1.obj).1
                        ·exact ih r hr
      intro ux;have:=this hm _ ux;omega
     have hmarks:bE W0 μ wA (mk::a.defers) (w.heap.size::rs):=.cons Uc NC (hm.step sA)
     let args':Array Value:=o6++ #[.func (.yield wA.heap.size) #[] #[]]++gZ
     have uu:=BX (E:=E) _ _ _ _ _ _ hc;obtain⟨U9,Rk⟩:=Option.isSome_iff_exists.1 uu;obtain⟨g1,g2,g3⟩:=hE.func _ _ Rk;have YI:U9.body.isNone=false:=by cases hx:U9.body<;>simp_all
     have iT:aq (jk μ h.size ⟨wA.heap.size,0,0⟩) (first.toList++[.func (.yield h.size) #[] #[]]++captured.toList) args'.toList:=by
      have hle:μ.le (jk μ h.size ⟨wA.heap.size,0,0⟩):=fA H.fresh;have v1:=(aq.lz t1 t2).mono hle;have v3:=(aq.lz t3 t4).mono hle;have v2:=aq.cons (an.yield (bB μ h.size ⟨wA.heap.size,0,0⟩)) .nil;simpa[args']using(v1.append v2).append v3
     refine⟨wA.heap.size,[mk],wB,{target:=.fn (.func gid) gZ,args:=o6++ #[.func (.yield wA.heap.size) #[] #[]]},wB,gid,args',wB,?_,?_,fun _ _=>hF.fn _,?_,hF.ok n,?_⟩
     ·rw[CW];unfold Instr.enterLoop;simp only[Sem.run_bind,run_newObj,Result.andThen_ok,Sem.run_pure];rfl
     ·have YJ:∀v:Value,a.eval (.const v)=v:=fun _=>rfl;simp[resolve,hq,Deferred.ofValue,Sem.run_pure,YJ]
     ·simp only[invoke,callFunc,Sem.run_bind,run_program,Result.andThen_ok,g1,g3,YI,Bool.false_eq_true,if_false,Sem.run_pure];rfl
     ·refine(pX _ _ wB gid _ args' _ out hc iT sB.rel F (n - 1) hF).mono ?_;rintro e w3 ⟨rv,v',h2,tt,q0,rfl,k1,s3⟩;have I9:tt h.size=some ⟨wA.heap.size,0,0⟩:=s3.le _ _ (bB _ _ _);simp only at q0;split at q0
      ·rename_i st p f0 I4 tf ma hl;simp only[aj]at q0;obtain⟨bU,q0⟩:=q0;obtain⟨NF,d1,d2,d3,s4⟩:=kI s3.rel I9 bh hl .exhausted p;have Rl:Step E base B tt h2 w3 tt (h2.put h.size (.loop .exhausted p f0 I4 tf ma)) {w3 with heap:=w3.heap.setIfInBounds wA.heap.size (.loop {NF with state:=.exhausted})}:=by
        rw[←d3]at s4 ⊢;exact s4
       have lK:=((sA.trans sB).trans s3).trans Rl;have Rm:bE W0 tt {w3 with heap:=w3.heap.setIfInBounds wA.heap.size (.loop {NF with state:=.exhausted})} (mk::a.defers) (w.heap.size::rs):=((hmarks.step sB).step s3).step Rl;refine⟨p,{w3 with heap:=w3.heap.setIfInBounds wA.heap.size (.loop {NF with state:=.exhausted})},?_,?_⟩
       ·unfold Instr.endLoop;simp only[Sem.run_bind,run_getLoop (P:=P) d1,Result.andThen_ok];rw[if_neg (by rw[d2];intro hh;rw[bne_iff_ne]at bU;exact bU (eq_of_beq hh))];simp only[Sem.run_bind,bP (P:=P) d1 (fun _ _ _=>by simp),Result.andThen_ok,Sem.run_pure,d3]
       ·cases p with
        |none=>exact hQ _ f _ tt _ _ _ q0 (hf.mono lK.le) Rm lK
        |some cj=>
         exact hk cj f _ K out q0 tt {a with defers:=mk::a.defers} _ W0 _ (hf.mono lK.le) Rl.rel Rm (Nat.le_trans hW lK.grow.size) F n Q hF (.inl CW) fun ex f5 h5 YK a5 w5 YL p0 p1 p2 s5=>hQ ex f5 h5 YK a5 w5 YL p0 p1 p2 (lK.trans s5)
      ·cases q0
   ·cases hr
  |scope b=>simp only[aA]at hr;cases hr
  |label l=>simp only[aA]at hr;cases hr
  |goto l=>simp only[aA]at hr;cases hr
  |refuse s=>simp only[aA]at hr;cases hr
theorem qx (hE:bl P E) (hO:iy P E base B) (hm:P.follows .mixedOrders=true) (n:Nat):tW P E base B (FM E base n):=
 FN hE hO (Oq hE hO (Fe hE hm) n).1
end
def BY (base:Nat):KV:=fun v h'=>match v with
 | .slice (some ⟨b,o,some z⟩) len _=>(ai h' b o (len*z)).bind fun cs=>bp (Nat.ble base b&&Nat.blt 0 len&&cs.all scalar) (some (.bool false::goInt len::goInt z::cs))
 |v=>bp (ar v) (some [.bool true,v])
def vA (h:ah):Out→Option (Value×ah)
 |[.bool true,v]=>bp (ar v) (some (v,h))
 | .bool false:: .int _ (.ofNat len):: .int _ (.ofNat z)::cs=>some (.slice (some ⟨h.size,0,some z⟩) len (len+1),h.push (.cells cs h.size (h.size+1) 0))
 |_=>none
noncomputable def BZ (E:Env) (n:Nat):eT:=fun g args h=>(FM E h.size n g args h (BY h.size)).bind (vA h)
theorem aX.ext {E:Env} {base B:Nat} {μ:ba} {h:ah} {w w':World} (H:aX E base B μ h w) (hs:w.heap.size≤w'.heap.size) (hk:∀r,r<w.heap.size→w'.heap[r]? =w.heap[r]?):aX E base B μ h w':=
 ⟨H.fy,H.high,fun b m hb=>by
  obtain⟨p,p',k1,k2,k3⟩:=H.obj b m hb;exact⟨p,p',k1,by rw[hk _ (H.lt hb)];exact k2,k3⟩,H.own,H.alias,H.c8,H.cW,Nat.le_trans H.low hs,H.lq,H.wf,H.root⟩
theorem aX.z6 {E E0:Env} {base B:Nat} {μ:ba} {h:ah} {w:World} (H:aX E base B μ h w) (hg:∀g,E0.cW g=true→E.cW g=true):aX E0 h.size w.heap.size μ h w:=
 ⟨H.fy,H.high,fun b m hb=>by
  obtain⟨p,p',k1,k2,k3⟩:=H.obj b m hb;have hd:=H.fy b m hb;refine⟨p,p',k1,k2,?_⟩;cases k3 with
  |cells hn hl hf hc=>exact .cells hn hl (fun h=>by omega) hc
  |map hs=>exact .map hs
  |gU hs=>exact .gU hs
  |ke hs=>exact .ke hs
  |bY hk hs=>exact .bY hk hs
  |loop hf=>exact .loop hf
  |fM hp hs hc hn=>exact .fM hp hs hc hn,fun b m hb Ax=>by have:=H.fy b m hb;omega,fun b1 b2 m1 m2 h1 h2 _ _ Ax=>by have:=H.fy b1 m1 h1;have:=H.fy b2 m2 h2;omega,H.c8,fun g Rq=>H.cW g (hg g Rq),Nat.le_refl _,Nat.le_refl _,H.wf,H.root⟩
section
variable {P:Program} {E E0:Env} {base B:Nat}
theorem pq {μ:ba} {h hX:ah} {w:World} (H:aX E base B μ h w) (_:hX.size=h.size) {out:Out} {v:Value} {h':ah} (lX:vA h out=some (v,h')) {u u':Value} {h1:ah} {e7:ba} {w':World}
 (hK:BY h.size u h1=some out) (hv:an e7 u u') (S:Step E0 h.size w.heap.size μ hX w e7 h1 w'):lF E base B μ h w v h' (.returned u') w':=by
 have hold:∀r,r<w.heap.size→w'.heap[r]? =w.heap[r]? :=fun r jM=>S.grow.bd r jM fun b m hb _=>H.fy b m hb;have Hx:=H.ext S.grow.size hold;have gr:Grow base μ w w':=⟨S.grow.tape,S.grow.os,S.grow.output,S.grow.size,fun r jM _=>hold r jM⟩;have plain:∀v:Value,ar v=true→vA h [.bool true,v]=some (v,h):=fun v hp=>by simp[vA,bp,hp]
 unfold BY at hK;split at hK
 ·rename_i b o z len cap;simp only[Option.bind_eq_some_iff,aj,Bool.and_eq_true,az,aI,Option.some.injEq]at hK;obtain⟨cs,ft,⟨⟨Ax,hlen⟩,ZL⟩,rfl⟩:=hK;simp only[vA,goInt,Option.some.injEq,Prod.mk.injEq]at lX;obtain⟨rfl,rfl⟩:=lX;cases hv with
  |lit hh=>simp[ar]at hh
  |cA hb=>omega
  |slice hb q1 q2 q3 q4=>
   rename_i cap' m;obtain⟨o1,o2,k1,k2,k3⟩:=S.rel.obj b m hb;obtain⟨ZM,ZN⟩:=S.rel.ai hb ft;have DV:w.heap.size≤m.r:=by
    have hn:μ b=none:=by
     cases hx:μ b with
     |none=>rfl
     |some mx=>have:=H.fy b mx hx;omega
    rcases(S.new b m hn hb).2.2 with h5|⟨b0,m0,r1,r2,_⟩
    ·exact h5
    ·have:=H.fy b0 m0 r2;omega
   let m2:MT:=⟨m.r,m.s+o,m.n⟩
   have Hp:=Hx.JN (o:=.cells cs h.size (h.size+1) 0) (fun _ _ _ _ hh=>by cases hh;rfl);have dL:(h.push (.cells cs h.size (h.size+1) 0)).get h.size=some (.cells cs h.size (h.size+1) 0):=by rw[ah.ak,if_pos rfl]
   obtain⟨c0,e0,Sr,GN,Ua,wK,qn⟩:∃c e fr,w'.heap[m.r]? =some (.cells c e fr)∧c.size=m.n∧mL fr m.n∧(∀(i:Nat) v,cs[i]? =some v→∃v',c[m.s+o+i]? =some v'∧an e7 v v'):=by
    have DW:=ft;unfold M.ai at DW;simp only[Option.bind_eq_some_iff]at DW;obtain⟨FD,M7,_⟩:=DW;obtain⟨c,e,fr,t1,t2,t3,t4,t5⟩:=S.rel.read hb M7;refine⟨c,e,fr,t1,t2,t4 Ax,fun i v hv=>?_⟩;obtain⟨v',s1,s2⟩:=ZN i v hv;refine⟨v',?_,s2⟩;simpa[World.cell?,t1]using s1
   have hle:m.s+o+cs.length≤m.n:=by
    rw[ZM];have:len*z≤cap'*z:=Nat.mul_le_mul_right z q2;omega
   have Qv:∀(i:Nat) v,cs[i]? =some v→scalar v=true:=fun i v hv=>List.all_eq_true.1 ZL v (List.mem_of_getElem? hv);have ho:gP (jk μ h.size m2) (h.push (.cells cs h.size (h.size+1) 0)) base h.size m2 (.cells cs h.size (h.size+1) 0) (.cells c0 e0 Sr):=by
    refine .cells Ua hle (fun _=>wK) fun _ i v hv=>?_;obtain⟨v',s1,s2⟩:=qn i v hv;have:=s2.ao (Qv i v hv);subst this;exact⟨v',s1,.nJ _ (Qv i v' hv)⟩
   have Ht:=Hp.E7 (b:=h.size) (m:=m2) (by simp[ah.size_push]) dL H.fresh H.lq (by have:=H.low;show B≤m.r;omega) GN
    (fun d md hd he=>by have:=H.lt hd;simp only[m2]at he;omega) (fun _ _ _ _ hh=>by cases hh;exact⟨rfl,om⟩) (fun _ _ hh=>by simp at hh) ho
   refine⟨_,jk μ h.size m2,rfl,?_,Ht,gr,fA H.fresh,fun d md h0 hd=>?_,fun d hd _=>by rw[ah.ak,if_neg om],by simp[ah.size_push]⟩
   ·have:=an.slice (μ:=jk μ h.size m2) (b:=h.size) (o:=0) (z:=z) (len:=len) (cap:=len+1) (cap':=cap') (m:=m2) (bB _ _ _) om q2 (fun h=>by omega) (by simpa[m2]using q4);simpa[m2]using this
   ·by_cases ed:d=h.size
    ·subst ed;rw[bB]at hd;cases hd;exact⟨Nat.le_refl _,H.lq,.inl DV⟩
    ·rw[mM _ _ ed,h0]at hd;cases hd
 ·simp only[aj,Option.some.injEq]at hK;obtain⟨hp,rfl⟩:=hK;rw[plain _ hp]at lX;simp only[Option.some.injEq,Prod.mk.injEq]at lX;obtain⟨rfl,rfl⟩:=lX;have:u'=u:=by cases u<;>simp[ar]at hp<;>cases hv<;>first|rfl |simp_all
  subst this;exact⟨u',μ,rfl,.lit hp,Hx,gr,μ.le_refl,fun b m h0 h1=>(by rw[h0]at h1;cases h1),fun _ _ _=>rfl,Nat.le_refl _⟩
theorem KQ (Wk:bl P E0) (hO:∀base B,iy P E0 base B) (hm:P.follows .mixedOrders=true) (hg:∀g,E0.cW g=true→E.cW g=true) (k:Nat):iO P E base B (BZ E0 k):=by
 intro μ h w g args args' v h' hc hr H F n hF;unfold BZ at hc;simp only[Option.bind_eq_some_iff]at hc;obtain⟨out,fC,lX⟩:=hc;have H2:=H.z6 hg;refine(qx Wk (hO _ _) hm k μ h w g args args' _ out fC hr H2 F n hF).mono ?_;rintro e w' ⟨u,u',h1,e7,hK,rfl,hv,S⟩;exact pq H rfl lX hK hv S
end
noncomputable def abf (P:Program) (fs:List Nat) (n:Nat):FuncId→List Value→ah→Option (Value×ah):=fun g args h=>
 match fs.contains g with
 |true=>BZ (gW P jX) n g args h
 |false=>none
def Ot (x:Int):List Int→List Int
 |[]=>[x]
 |y::l=>bif Int.blt' x y then x::y::l else y::Ot x l
where Int.blt' (x y:Int):Bool:=decide (x<y)
def sY:List Int→List Int
 |[]=>[]
 |x::l=>Ot x (sY l)
theorem xW (x:Int):∀l,(Ot x l).Perm (x::l)
 |[]=>.refl _
 |y::l=>by
  unfold Ot;rw[bG];split
  ·exact .refl _
  ·exact((xW x l).cons y).trans (.swap x y l)
theorem vB:∀l,(sY l).Perm l
 |[]=>.refl _
 |x::l=>(xW x _).trans ((vB l).cons x)
def sZ:List Value→Option (List Int)
 |[]=>some []
 | .int .i64 x::l=>(sZ l).bind fun r=>some (x::r)
 |_=>none
theorem vC:∀{l:List Value} {r:List Int},sZ l=some r→l=r.map (.int .i64)
 |[],r,h=>by simp[sZ]at h;subst h;rfl
 | .int .i64 x::l,r,h=>by
  simp only[sZ,Option.bind_eq_some_iff,Option.some.injEq]at h;obtain⟨r',h1,rfl⟩:=h;rw[vC h1];rfl
def Wl (base:Nat):KV:=fun v h'=>match v with
 | .slice (some ⟨b,o,some 1⟩) len _=>(ai h' b o len).bind fun cs=>(sZ cs).bind fun xs=>bp (Nat.ble base b&&Nat.blt 0 len) (some (.bool false::goInt len::(sY xs).map (.int .i64)))
 |v=>bp (ar v) (some [.bool true,v])
def Ou (h:ah):Out→Option (Value×ah)
 |[.bool true,v]=>bp (ar v) (some (v,h))
 | .bool false:: .int _ (.ofNat len)::cs=>(sZ cs).bind fun xs=>some (.slice (some ⟨h.size,0,some 1⟩) len (len+1),h.push (.fM xs))
 |_=>none
noncomputable def z7 (E:Env) (n:Nat):eT:=fun g args h=>(FM E h.size n g args h (Wl h.size)).bind (Ou h)
theorem xX:∀l:List Int,sZ (l.map (.int .i64))=some l
 |[]=>rfl
 |x::l=>by simp[sZ,xX l]
section
variable {P:Program} {E E0:Env} {base B:Nat}
theorem HA (Wk:bl P E0) (hO:∀base B,iy P E0 base B) (hm:P.follows .mixedOrders=true) (hg:∀g,E0.cW g=true→E.cW g=true) (k:Nat):iO P E base B (z7 E0 k):=by
 intro μ h w g args args' v h' hc hr H F n hF;unfold z7 at hc;simp only[Option.bind_eq_some_iff]at hc;obtain⟨out,fC,lX⟩:=hc;have H2:=H.z6 hg;refine(qx Wk (hO _ _) hm k μ h w g args args' _ out fC hr H2 F n hF).mono ?_;rintro e w' ⟨u,u',h1,e7,hK,rfl,hv,S⟩;have hold:∀r,r<w.heap.size→w'.heap[r]? =w.heap[r]? :=fun r jM=>S.grow.bd r jM fun b m hb _=>H.fy b m hb;have Hx:=H.ext S.grow.size hold;have gr:Grow base μ w w':=⟨S.grow.tape,S.grow.os,S.grow.output,S.grow.size,fun r jM _=>hold r jM⟩;have plain:∀v:Value,ar v=true→Ou h [.bool true,v]=some (v,h):=fun v hp=>by simp[Ou,bp,hp]
 unfold Wl at hK;split at hK
 ·rename_i b o len cap;simp only[Option.bind_eq_some_iff,aj,Bool.and_eq_true,az,aI,Option.some.injEq]at hK;obtain⟨cs,ft,xs,I7,⟨Ax,hlen⟩,rfl⟩:=hK;have oz:=vC I7;simp only[Ou,goInt,xX,Option.bind_some,Option.some.injEq,Prod.mk.injEq]at lX;obtain⟨rfl,rfl⟩:=lX;cases hv with
  |lit hh=>simp[ar]at hh
  |cA hb=>omega
  |slice hb q1 q2 q3 q4=>
   rename_i cap' m;obtain⟨ZM,ZN⟩:=S.rel.ai hb ft;have DV:w.heap.size≤m.r:=by
    have hn:μ b=none:=by
     cases hx:μ b with
     |none=>rfl
     |some mx=>have:=H.fy b mx hx;omega
    rcases(S.new b m hn hb).2.2 with h5|⟨b0,m0,r1,r2,_⟩
    ·exact h5
    ·have:=H.fy b0 m0 r2;omega
   let m2:MT:=⟨m.r,m.s+o,m.n⟩
   have Hp:=Hx.JN (o:=.fM (sY xs)) (fun _ _ _ _ hh=>by cases hh);have dL:(h.push (.fM (sY xs))).get h.size=some (.fM (sY xs)):=by rw[ah.ak,if_pos rfl]
   obtain⟨c0,e0,Sr,GN,Ua,qn⟩:∃c e fr,w'.heap[m.r]? =some (.cells c e fr)∧c.size=m.n∧(∀(i:Nat) v,cs[i]? =some v→∃v',c[m.s+o+i]? =some v'∧an e7 v v'):=by
    have DW:=ft;unfold M.ai at DW;simp only[Option.bind_eq_some_iff]at DW;obtain⟨FD,M7,_⟩:=DW;obtain⟨c,e,fr,t1,t2,t3,t4,t5⟩:=S.rel.read hb M7;refine⟨c,e,fr,t1,t2,fun i v hv=>?_⟩;obtain⟨v',s1,s2⟩:=ZN i v hv;refine⟨v',?_,s2⟩;simpa[World.cell?,t1]using s1
   have hxl:xs.length=len:=by rw[←ZM,oz];simp
   have ho:gP (jk μ h.size m2) (h.push (.fM (sY xs))) base h.size m2 (.fM (sY xs)) (.cells c0 e0 Sr):=by
    refine .fM (l:=xs) (vB xs).symm (by show m.s+o+xs.length≤m.n;omega) (fun i x hx=>?_) Ua;obtain⟨v',s1,s2⟩:=qn i (.int .i64 x) (by rw[oz];simp[hx]);have:=s2.ao rfl;subst this;exact s1
   have Ht:=Hp.E7 (b:=h.size) (m:=m2) (by simp[ah.size_push]) dL H.fresh H.lq (by have:=H.low;show B≤m.r;omega) GN
    (fun d md hd he=>by have:=H.lt hd;simp only[m2]at he;omega) (fun _ _ _ _ hh=>by cases hh) (fun _ _ hh=>by cases hh) ho
   refine⟨_,jk μ h.size m2,rfl,?_,Ht,gr,fA H.fresh,fun d md h0 hd=>?_,fun d hd _=>by rw[ah.ak,if_neg om],by simp[ah.size_push]⟩
   ·have:=an.slice (μ:=jk μ h.size m2) (b:=h.size) (o:=0) (z:=1) (len:=len) (cap:=len+1) (cap':=cap') (m:=m2) (bB _ _ _) om q2 (fun h=>by omega) (by simpa[m2]using q4);simpa[m2]using this
   ·by_cases ed:d=h.size
    ·subst ed;rw[bB]at hd;cases hd;exact⟨Nat.le_refl _,H.lq,.inl DV⟩
    ·rw[mM _ _ ed,h0]at hd;cases hd
 ·simp only[aj,Option.some.injEq]at hK;obtain⟨hp,rfl⟩:=hK;rw[plain _ hp]at lX;simp only[Option.some.injEq,Prod.mk.injEq]at lX;obtain⟨rfl,rfl⟩:=lX;have:u'=u:=by cases u<;>simp[ar]at hp<;>cases hv<;>first|rfl |simp_all
  subst this;exact⟨u',μ,rfl,.lit hp,Hx,gr,μ.le_refl,fun b m h0 h1=>(by rw[h0]at h1;cases h1),fun _ _ _=>rfl,Nat.le_refl _⟩
end
def rS (x:Int):List Int→List (List Int)
 |[]=>[[x]]
 |y::l=>(x::y::l)::(rS x l).map (y::·)
def perms:List Int→List (List Int)
 |[]=>[[]]
 |x::l=>(perms l).flatMap (rS x)
theorem vD (x:Int):∀a b:List Int,a++x::b∈rS x (a++b)
 |[],[]=>by simp[rS]
 |[],y::b=>by simp[rS]
 |y::a,b=>by
  simp only[List.cons_append,rS,List.mem_cons,List.mem_map];exact .inr ⟨_,vD x a b,rfl⟩
theorem xY:∀{cs l:List Int},l.Perm cs→l∈perms cs
 |[],l,h=>by simp[perms,h.eq_nil]
 |x::cs,l,h=>by
  have hx:x∈l:=h.mem_iff.2 List.mem_cons_self;obtain⟨a,b,rfl⟩:=List.append_of_mem hx;have hp:(a++b).Perm cs:=(List.perm_middle.symm.trans h).cons_inv;simp only[perms,List.mem_flatMap];exact⟨a++b,xY hp,vD x a b⟩
def qy (h:ah):List Value→Option (Nat×List Int)
 |[]=>none
 | .slice (some ⟨b,_,some _⟩) _ cap::l=>(match Nat.beq cap 0,h.get b with
  |false,some (.fM cs)=>some (b,cs)
  |_,_=>qy h l)
 |_::l=>qy h l
def DX (h:ah) (b:Nat):Bool:=(List.range h.size).all fun c=>match h.get c with
 |some (.cells _ f _ _)=> !Nat.beq f b
 |_=>true
noncomputable def z8 (E:Env) (n:Nat):eT:=fun g args h=>(qy h args).bind fun r=>bp (Nat.blt r.1 h.size&&DX h r.1)<|
 (meet ((perms r.2).map fun l=>FM E h.size n g args (h.put r.1 (.cells (l.map (.int .i64)) r.1 h.size 0)) (BY h.size))).bind (vA h)
theorem HB {h:ah} {args:List Value} {r:Nat×List Int} (hr:qy h args=some r):h.get r.1=some (.fM r.2):=by
 induction args with
 |nil=>simp[qy]at hr
 |cons v l ih=>
  unfold qy at hr;split at hr
  ·cases hr
  ·rename_i b o z len cap l' heq;simp only[List.cons.injEq]at heq;obtain⟨_,rfl⟩:=heq;split at hr
   ·rename_i cs hg;simp only[Option.some.injEq]at hr;subst hr;exact hg
   ·exact ih hr
  ·rename_i v' l' _ heq;simp only[List.cons.injEq]at heq;obtain⟨_,rfl⟩:=heq;exact ih hr
section
variable {P:Program} {E E0:Env} {base B:Nat}
theorem aX.Wm {μ:ba} {h:ah} {w:World} (H:aX E base B μ h w) (ZO:∀b,b<h.size→b<base) {b:Nat} {m:MT} (hb:μ b=some m) {cs:List Int} (hg:h.get b=some (.fM cs)) (hn:DX h b=true):
 ∃l:List Int,l.Perm cs∧aX E base B μ (h.put b (.cells (l.map (.int .i64)) b h.size 0)) w:=by
 obtain⟨p,p',k1,k2,k3⟩:=H.obj b m hb;rw[hg]at k1;cases k1;have SA:=H.fy b m hb;cases k3 with
 |fM hp hl hc Ua=>
  rename_i c e fr l;refine⟨l,hp,?_⟩;have bC:∀c cs' f t th,h.get c=some (.cells cs' f t th)→f≠b:=by
   intro c cs' f t th ry Qw;have oz:c<h.size:=by
    rcases Nat.lt_or_ge c h.size with h1|h1
    ·exact h1
    ·rw[H.high c h1]at ry;cases ry
   unfold DX at hn;have:=List.all_eq_true.1 hn c (List.mem_range.2 oz);rw[ry]at this;simp[Qw]at this
  have z9:∀c,c≠b→(h.put b (.cells (l.map (.int .i64)) b h.size 0)).get c=h.get c:=fun c hc=>by rw[ah.br,if_neg hc]
  have mO:(h.put b (.cells (l.map (.int .i64)) b h.size 0)).get b=some (.cells (l.map (.int .i64)) b h.size 0):=by rw[ah.br,if_pos rfl]
  have kF:∀c,c≠b→(h.put b (.cells (l.map (.int .i64)) b h.size 0)).c8 c=h.c8 c:=by
   intro c hc;apply pL;intro r;obtain⟨f,cu,aF⟩:=r;rw[fP,fP];constructor
   ·rintro⟨cs',t0,eg,c0,q1,q2⟩;rw[z9 c hc]at q1;have Qw:=bC _ _ _ _ _ q1;rw[z9 f Qw]at q2;exact⟨cs',t0,eg,c0,q1,q2⟩
   ·rintro⟨cs',t0,eg,c0,q1,q2⟩;have Qw:=bC _ _ _ _ _ q1;exact⟨cs',t0,eg,c0,by rw[z9 c hc];exact q1,by rw[z9 f Qw];exact q2⟩
  have Qx:h.c8 b=none:=by
   cases hf:h.c8 b with
   |none=>rfl
   |some r=>obtain⟨cs',t,th,q⟩:=dr hf;rw[hg]at q;cases q
  have SB:(h.put b (.cells (l.map (.int .i64)) b h.size 0)).c8 b=some (b,h.size,0):=bu mO mO;have qX:∀c,c≠b→(h.put b (.cells (l.map (.int .i64)) b h.size 0)).cellsOf c=h.cellsOf c:=fun c hc=>by unfold ah.cellsOf;rw[z9 c hc]
  have ft:∀c,c≠b→(h.put b (.cells (l.map (.int .i64)) b h.size 0)).rd c=h.rd c:=fun c hc=>by unfold ah.rd;rw[kF c hc,qX c hc]
  have hlen:∀c,c≠b→lenOf (h.put b (.cells (l.map (.int .i64)) b h.size 0)) c=lenOf h c:=fun c hc=>by unfold lenOf;rw[qX c hc]
  refine⟨H.fy,fun c hc=>by rw[z9 c (by simp only[ah.size_put]at hc;omega)];exact H.high c hc,fun c mc hc=>?_,H.own,fun b1 b2 m1 m2 h1 h2 hr bc Ax=>?_,fun c mc r hc hr=>?_,H.cW,H.low,H.lq,fun c cs' f t th ry=>?_,fun c mc cs' th hc ry=>?_⟩
  ·by_cases ec:c=b
   ·subst ec;rw[hb]at hc;cases hc;refine⟨_,_,mO,k2,.cells Ua (by simpa using hl) (fun h9=>?_) fun _ i v hv=>?_⟩
    ·have:=ZO c SA;omega
    ·rw[List.getElem?_map,Option.map_eq_some_iff]at hv;obtain⟨x,hx,rfl⟩:=hv;exact⟨_,hc i x hx,.int μ _ _⟩
   ·obtain⟨q,q',j1,j2,j3⟩:=H.obj c mc hc;exact⟨q,q',by rw[z9 c ec];exact j1,j2,j3.mono μ.le_refl (by rw[ft c ec];exact id)⟩
  ·obtain⟨r,q1,q2,q3⟩:=H.alias b1 b2 m1 m2 h1 h2 hr bc Ax;have e1:b1≠b:=fun e=>by subst e;rw[Qx]at q1;cases q1
   have e2:b2≠b:=fun e=>by subst e;rw[Qx]at q2;cases q2
   exact⟨r,by rw[kF b1 e1];exact q1,by rw[kF b2 e2];exact q2,by rw[hlen b1 e1,hlen b2 e2];exact q3⟩
  ·by_cases ec:c=b
   ·subst ec;rw[SB]at hr;cases hr;exact⟨Nat.le_of_lt SA,Nat.le_refl _,m,hb⟩
   ·rw[kF c ec]at hr;exact H.c8 c mc r hc hr
  ·by_cases ec:c=b
   ·subst ec;rw[mO]at ry;cases ry;exact Nat.le_refl _
   ·rw[z9 c ec]at ry;exact H.wf _ _ _ _ _ ry
  ·by_cases ec:c=b
   ·subst ec;rw[mO]at ry;simp only[Option.some.injEq,ew.cells.injEq]at ry;omega
   ·rw[z9 c ec]at ry;exact H.root _ _ _ _ hc ry
theorem HC {μ:ba} {h:ah} {args args':List Value} (hr:aq μ args args') {b:Nat} {cs:List Int} (hb:qy h args=some (b,cs)):∃m,μ b=some m:=by
 induction hr with
 |nil=>simp[qy]at hb
 |cons hv _ ih=>
  unfold qy at hb;split at hb
  ·cases hb
  ·rename_i b0 o z len cap l' heq;simp only[List.cons.injEq]at heq;obtain⟨rfl,rfl⟩:=heq;split at hb
   ·rename_i cs' hz hg;simp only[Option.some.injEq,Prod.mk.injEq]at hb;obtain⟨rfl,rfl⟩:=hb;cases hv with
    |lit hh=>simp[ar]at hh
    |slice h1=>exact⟨_,h1⟩
    |cA h1=>exact h1 (by rintro rfl;simp at hz)
   ·exact ih hb
  ·rename_i v' l' _ heq;simp only[List.cons.injEq]at heq;obtain⟨_,rfl⟩:=heq;exact ih hb
theorem HD (Wk:bl P E0) (hO:∀base B,iy P E0 base B) (hm:P.follows .mixedOrders=true) (hg:∀g,E0.cW g=true→E.cW g=true) (k:Nat):iO P E base B (z8 E0 k):=by
 intro μ h w g args args' v h' hc hr H F n hF;unfold z8 at hc;simp only[Option.bind_eq_some_iff,aj,Bool.and_eq_true,aI]at hc;obtain⟨⟨b,cs⟩,Wn,⟨bj,NC⟩,out,Wo,lX⟩:=hc;obtain⟨m,hb⟩:=HC hr Wn;have dL:=HB Wn;have H2:=H.z6 hg;obtain⟨l,hl,H3⟩:=H2.Wm (fun _ h=>h) hb dL NC;have fC:=xV Wo _ (List.mem_map_of_mem (xY hl));refine(qx Wk (hO _ _) hm k μ _ w g args args' _ out fC hr H3 F n hF).mono ?_;rintro e w' ⟨u,u',h1,e7,hK,rfl,hv,S⟩;exact pq (hX:=h.put b (.cells (l.map (.int .i64)) b h.size 0)) H rfl lX hK hv S
end
noncomputable def ZP (P:Program) (fs bs ps:List Nat) (n:Nat):FuncId→List Value→ah→Option (Value×ah):=fun g args h=>
 match fs.contains g with
 |true=>BZ (gW P jX) n g args h
 |false=>match bs.contains g with
  |true=>z7 (gW P jX) n g args h
  |false=>match ps.contains g with
   |true=>z8 (gW P jX) n g args h
   |false=>none
end Go.M
