/-
  Part 11 of the library that the proof leans on.
-/
import Derived.Test.YtjeejiegdkojdaaGreatDoorL4
namespace Go.M
open Go
abbrev Out:=List Value
abbrev KV:=Value→ab→Option Out
abbrev qM:=FuncId→List Value→ab→KV→Option Out
abbrev n9:=Nat→List Value→ab→KV→Option Out
abbrev KC:=Ex→AF→ab→Option Out
def meet:List (Option Out)→Option Out
 |[]=>none
 |x::xs=>x.bind fun o=>bF (xs.all fun y=>match y with|some o'=>gu o o'|none=>false) (some o)
def yq (h:ab) (r base:Nat) (K:KV):Option Out:=
 bF (Nat.ble base r)<|
 match h.get r with
 |some (.cy none _ _ _)=>K (.tuple #[.bool false]) h
 |some (.cy (some m) since seen last)=>(match h.get m with
  |some (.map es clock)=>
   bF (!(!seen.isEmpty&& !es.isEmpty&&es.all (fun e=>Nat.ble last e.born)))<|
   (match es.filter (fun e=> !seen.contains e.born)with
   |[]=>K (.tuple #[.bool false]) h
   |e::l=>meet ((e::l).map fun e=>bF (Nat.blt e.born since) (K (.tuple #[.bool true,e.key,e.val]) (h.put r (.cy (some m) since (seen++[e.born]) clock)))))
  |_=>none)
 |_=>none
def AM (E:Env) (base:Nat) (cK:qM) (rK:n9) (o:Oper) (f:AF) (h:ab) (K:KV):Option Out:=
 match o.op with
 | .next it false=>(match(ev E f it).bind nw with
  |some r=>yq h r base K
  |none=>none)
 |_=>
  match aM E f o with
  |some v=>K v h
  |none=>match bL E f o with
   |some q=>(match q.run h with|some v=>K v h|none=>none)
   |none=>match bf E f o with
    |some (m,hd)=>K (hd.val h.size) (h.push (m.obj h.size))
    |none=>match da E base f o h with
     |some (.val v,h')=>K v h'
     |some (.enter g args,h')=>cK g args h' K
     |some (.round l args,h')=>rK l args h' K
     |none=>none
def oJ (E:Env) (base:Nat) (cK:qM) (rK:n9) (ops:List Oper):List Oper→AF→ab→(AF→ab→Option Out)→Option Out
 |[],f,h,K=>K f h
 |o::rest,f,h,K=>
  match wanted ops o f with
  |true=>AM E base cK rK o f h fun v h'=>oJ E base cK rK ops rest (f.put o.dst v) h' K
  |false=>oJ E base cK rK ops rest (f.put o.dst undef) h K
abbrev K5:=Code→AF→ab→KC→Option Out
def ef (E:Env) (base:Nat) (run:K5):qM:=fun g args h K=>
 match E.func g with
 |none=>none
 |some fn=>match E.tS base g args h with
  |some r=>K r.1 r.2
  |none=>match fn.body with
   |none=>none
   |some c=>bF (Nat.ble args.length fn.ntmps)<|run c (AF.enter args fn.ntmps) h fun ex f h'=>
    match ex with
    | .exit _=>none
    |_=>match df E h' f fn.results.toList with
     |some vs=>K (cX vs) h'
     |none=>none
def jF (base:Nat) (run:K5):n9:=fun l args h K=>
 bF (Nat.ble base l)<|
 match h.get l with
 |some (.loop .ready _ f ps iW body)=>bF (Nat.beq ps.length args.length&&aY iW&&aY body)<|
  run iW (AF.jZ (ps.zip args) f) h fun ex f1 h1=>
   (match ex with
   | .normal=>(match h1.get l with
    |some (.loop .ready p1 f0 fO qw kb)=>
     run body f1 (h1.put l (.loop .busy p1 f0 fO qw kb)) fun Wy _ h2=>
      (match h2.get l with
      |some (.loop _ _ f0 fO qw kb)=>
       (match Wy with
       | .normal=>K (.bool true) (h2.put l (.loop .ready none f0 fO qw kb))
       | .ret=>K (.bool false) (h2.put l (.loop .done (some .ret) f0 fO qw kb))
       | .exit id=>K (.bool false) (h2.put l (.loop .done (some (.exit id)) f0 fO qw kb)))
      |_=>none)
    |_=>none)
   |_=>none)
 |_=>none
noncomputable def aL (E:Env) (base:Nat):Nat→K5
 |0,_,_,_,_=>none
 |n+1,c,f,h,K=>
  match c with
  | .skip=>K .normal f h
  | .region _ ops draw=>(match draw with
   |false=>oJ E base (ef E base (aL E base n)) (jF base (aL E base n)) ops.toList ops.toList f h fun f' h'=>K .normal f' h'
   |true=>(match lE E base (a8 E base n) ops true f h with
    |some (ex,f',h')=>K ex f' h'
    |none=>none))
  | .seq a b=>aL E base n a f h fun ex f' h'=>(match ex with
   | .normal=>aL E base n b f' h' K
   |ex=>K ex f' h')
  | .cond c t e=>(match(ev E f c).bind Dl with
   |some true=>aL E base n t f h K
   |some false=>aL E base n e f h K
   |none=>none)
  | .block id b=>aL E base n b f h fun ex f' h'=>(match ex with
   | .exit nk=>bif Nat.beq nk id then K .normal f' h' else K (.exit nk) f' h'
   |ex=>K ex f' h')
  | .loop b=>aL E base n b f h fun ex f' h'=>(match ex with
   | .normal=>aL E base n (.loop b) f' h' K
   |ex=>K ex f' h')
  | .exit id=>K (.exit id) f h
  | .ret=>K .ret f h
  | .rangeFunc g ps iW body=>(match ev E f g with
   |some (.func (.func g) first captured)=>bF (Nat.ble base h.size)<|
    ef E base (aL E base n) g (first.toList++[.func (.yield h.size) #[] #[]]++captured.toList) (h.push (.loop .ready none f ps.toList iW body)) fun _ h1=>
     (match h1.get h.size with
     |some (.loop st p f0 MN vQ ou)=>bF (st != .busy) (match p with
      |none=>K .normal f (h1.put h.size (.loop .exhausted p f0 MN vQ ou))
      |some c=>aL E base n c f (h1.put h.size (.loop .exhausted p f0 MN vQ ou)) K)
     |_=>none)
   |_=>none)
  |_=>none
noncomputable def Jq (E:Env) (base n:Nat):qM:=ef E base (aL E base n)
section
variable {P:Program} {E:Env} {μ:bn} {f:AF} {a:Act} {base B:Nat} {h:ab} {w:World}
theorem cB.get' {l l':List MapEntry} (hs:cB μ l l'):∀(i:Nat) (e':MapEntry),l'[i]? =some e'→∃e,l[i]? =some e∧au μ e.key e'.key∧au μ e.val e'.val∧e.born=e'.born:=by
 induction hs with
 |nil=>intro i e' h;simp at h
 |cons q1 q2 q3 _ ih=>
  intro i e' h;cases i with
  |zero=>simp at h;subst h;exact⟨_,rfl,q1,q2,q3⟩
  |succ i=>simpa using ih i e' (by simpa using h)
theorem zR (n:Nat) (hn:0<n) (w:World):∃i d,i<n∧(choose (.mapNext n)).run P w= .ok i {w with drawn:=d}:=by
 rw[run_choose];by_cases hf:(Question.mapNext n).forced=true
 ·rw[if_pos hf];exact⟨0,w.drawn,hn,rfl⟩
 ·rw[if_neg hf];exact⟨_,w.drawn+1,Nat.mod_lt _ hn,rfl⟩
theorem AN {l:List (Option Out)} {o:Out} (h:meet l=some o):∀x∈l,x=some o:=by
 cases l with
 |nil=>intro x hx;simp at hx
 |cons y ys=>
  simp only[meet,Option.bind_eq_some_iff,ai,Option.some.injEq,List.all_eq_true]at h;obtain⟨o',rfl,h2,rfl⟩:=h;intro x hx;rcases List.mem_cons.1 hx with rfl |hx
  ·rfl
  ·have:=h2 x hx;cases x with
   |none=>simp at this
   |some o2=>simp only at this;rw[pY this]
theorem K6 (H:bh E base B μ h w) {r:Nat} {m:MT} {K:KV} {out:Out} (ty:TypeId) (hk:yq h r base K=some out) (hb:μ r=some m):
 ∃v h' v' w',K v h'=some out∧(Instr.next (.pointer (some ⟨m.r,0,none⟩)) false ty).run P w= .ok v' w'∧au μ v v'∧Step E base B μ h w μ h' w':=by
 unfold yq at hk;simp only[ai,aG]at hk;obtain⟨bt,hk⟩:=hk;obtain⟨o1,o2,k1,k2,k3⟩:=H.obj r m hb;split at hk
 ·rename_i since seen last hg;rw[hg]at k1;cases k1;cases k3 with
  |l4 gN=>
   have pW:=run_getObj_map (P:=P) k2 (fun _ _ _=>by simp);refine⟨_,_,_,w,hk,?_,.dC (by simpa using ay.cons (.bool μ false) .nil),.refl H⟩;unfold Instr.next;simp only[Sem.run_bind,pW,Result.andThen_ok];rfl
 ·rename_i mm since seen last hg;rw[hg]at k1;cases k1;cases k3 with
  |cy hkm gN=>
   rename_i mk;have pW:=run_getObj_map (P:=P) k2 (fun _ _ _=>by simp);split at hk
   ·rename_i es clock Nw;obtain⟨p1,p2,j1,j2,j3⟩:=H.obj mm mk hkm;rw[Nw]at j1;cases j1;cases j3 with
    |map hs=>
     rename_i bS;have GG:=run_getObj_map (P:=P) j2 (fun _ _ _=>by simp);simp only[ai]at hk;obtain⟨kp,hk⟩:=hk;have hlen:=hs.length;have VM:bS.isEmpty=es.isEmpty:=by
      cases es<;>cases h9:bS.toList<;>rw[h9]at hlen<;>simp at hlen
      ·have:bS= #[]:=by apply Array.ext';simp[h9]
       simp[this]
      ·have:bS.size≠0:=by have:=congrArg List.length h9;simp at this;omega
       simp[Array.isEmpty,this]
     have iY:(bS.all fun e=>decide (e.born≥last))=es.all (fun e=>Nat.ble last e.born):=by
      rw[←Array.all_toList,←hs.DM (fun n=>decide (n≥last))]
      congr 1
      funext e
      rw[Bool.eq_iff_iff,aG];simp
     have DN:(!seen.toArray.isEmpty&& !bS.isEmpty&&bS.all fun e=>decide (e.born≥last))=false:=by
      rw[VM,iY];have:seen.toArray.isEmpty=seen.isEmpty:=by cases seen<;>simp
      rw[this];simpa only[Bool.not_eq_true']using kp
     have qx:=hs.filter (fun n=> !seen.contains n);have Ad:(bS.filter fun e=> !seen.toArray.contains e.born).toList=bS.toList.filter (fun e=> !seen.contains e.born):=by
      simp
     generalize hL:(bS.filter fun e=> !seen.toArray.contains e.born)=left at Ad;split at hk
     ·rename_i hf;rw[hf]at qx;have qE:left= #[]:=by
       apply Array.ext';rw[Ad];cases w9:bS.toList.filter (fun e=> !seen.contains e.born)with
       |nil=>rfl
       |cons x y=>rw[w9]at qx;cases qx
      refine⟨_,_,_,w,hk,?_,.dC (by simpa using ay.cons (.bool μ false) .nil),.refl H⟩;unfold Instr.next;simp only[Sem.run_bind,pW,GG,Result.andThen_ok,DN,Bool.false_eq_true,if_false,hL,qE];simp[Question.forced]
     ·rename_i e0 l0 hf;rw[←hf]at hk;rw[←Ad]at qx;have Kp:=AN hk;have hk:∀e∈es.filter (fun e=> !seen.contains e.born),e.born<since∧K (.tuple #[.bool true,e.key,e.val]) (h.put r (.cy (some mm) since (seen++[e.born]) clock))=some out:=fun e he=>by
       have:=Kp _ (List.mem_map_of_mem he);simp only[ai,aS]at this;exact this
      have fL:0<left.size:=by
       have:=qx.length;rw[hf]at this;simp at this;omega
      have hold:∀x∈left,x.born<since:=by
       intro x hx;obtain⟨i,hi⟩:=List.mem_iff_getElem?.1 (by simpa using hx:x∈left.toList);obtain⟨e,h1,_,_,h4⟩:=qx.get' i x hi;rw[←h4];exact(hk e (List.mem_of_getElem? h1)).1
      have f1:(left.filter fun x=>decide (x.born<since))=left:=by
       apply Array.filter_eq_self.2;intro x hx;simpa using hold x hx
      have f2:(left.filter fun x=>decide (x.born≥since))= #[]:=by
       apply Array.filter_eq_empty_iff.2;intro x hx;have:=hold x hx;simp;omega
      have f3:left.isEmpty=false:=by
       cases hle:left.isEmpty with
       |false=>rfl
       |true=>
        have:left= #[]:=by simpa using hle
        rw[this]at fL;simp at fL
      obtain⟨i,d,hi,K7⟩:=zR (P:=P) left.size fL w;have hgi:=Array.getElem?_eq_getElem hi;obtain⟨e,h1,h2,h3,h4⟩:=qx.get' i left[i] (by rw[Array.getElem?_toList];exact hgi);obtain⟨hbe,hKe⟩:=hk e (List.mem_of_getElem? h1);have Hd:=H.congr (w':={w with drawn:=d}) rfl;have IQ:=fun o=>cg (P:=P) (w:={w with drawn:=d}) (o:=o) k2 (fun _ _ _=>by simp);have st:=Step.put (o:=.cy (some mm) since (seen++[e.born]) clock) Hd hb bt hg rfl rfl (z8.set {w with drawn:=d} m.r (.mapIter (some mk.r) since (seen.toArray.push left[i].born) clock) (Hd.lt hb)) (by
       have:=iX.cy (μ:=μ) (h:=h.put r (.cy (some mm) since (seen++[e.born]) clock)) (base:=base) (b:=r) (m:=m) (since:=since) (last:=clock) (seen:=seen++[e.born]) hkm gN;rw[h4]at this ⊢;simpa using this)
      refine⟨_,_,_,_,hKe,?_,.dC (by simpa using ay.cons (.bool μ true) (.cons h2 (.cons h3 .nil))),(Step.drawn H d).trans st⟩;unfold Instr.next;simp only[Sem.run_bind,pW,GG,Result.andThen_ok,DN,Bool.false_eq_true,if_false,hL,f1,f2,f3];have f4:(#[]++(left++ #[]).map some:Array (Option MapEntry))=left.map some:=by simp
      rw[f4];simp only[Array.size_map,K7,Result.andThen_ok,Array.getElem?_map,hgi,Option.map_some,Sem.run_bind,IQ,Sem.run_pure]
   ·cases hk
 ·cases hk
end
def R4 (E:Env) (base B:Nat) (μ:bn) (h:ab) (w:World) (K:KV) (out:Out):Ending→World→Prop:=
 fun e w'=>∃v v' h' aU,K v h'=some out∧e= .returned v'∧au aU v v'∧Step E base B μ h w aU h' w'
def wG (P:Program) (E:Env) (base B:Nat) (cK:qM):Prop:=
 ∀(μ:bn) (h:ab) (w:World) (g:FuncId) (args:List Value) (args':Array Value) (K:KV) (out:Out),cK g args h K=some out→ay μ args args'.toList→bh E base B μ h w→
  ∀(F:Fence) (n:Nat),gO F→CallsIn F n P g args' w (R4 E base B μ h w K out)
def yr (P:Program) (E:Env) (base B:Nat) (rK:n9):Prop:=
 ∀(μ:bn) (h:ab) (w:World) (l:Nat) (args:List Value) (K:KV) (out:Out) (m:MT) (f0:AF) (ps:List Tmp) (iW body:Code) (st:LoopState) (p:Option Code) (fn:FuncId) (tmps:Array Value),
  rK l args h K=some out→h.get l=some (.loop st p f0 ps iW body)→μ l=some m→bh E base B μ h w→cY μ (AF.jZ (ps.zip args) f0) tmps→
  ∀(F:Fence) (n:Nat),gO F→RoundIn F n P m.r fn tmps iW body w (R4 E base B μ h w K out)
def yu (E:Env) (cK:qM):Prop:=∀g args h K out,cK g args h K=some out→(E.func g).isSome=true
def uF (rK:n9):Prop:=∀l args h K out,rK l args h K=some out→∃st p f0 ps iW body,h.get l=some (.loop st p f0 ps iW body)∧ps.length=args.length
section
variable {P:Program} {E:Env} {μ:bn} {f:AF} {a:Act} {base B:Nat} {h:ab} {w:World} {cK:qM} {rK:n9}
theorem OV {o:Oper} {K:KV} {out:Out} {k:ab} (h:AM E base cK rK o f k K=some out):∀c,o.op≠ .defer c:=by
 intro c hc;unfold AM at h;simp only[aM,bL,bf,da,hc]at h;cases h
theorem R5 (hE:bu P E) (rz:wG P E base B cK) (BV:yr P E base B rK) (BW:yu E cK) (BX:uF rK) {F:Fence} (hF:gO F) {n:Nat} (hf:cY μ f a.tmps) (H:bh E base B μ h w) {o:Oper} {K:KV} {out:Out} (hr:AM E base cK rK o f h K=some out)
 {next:Act→World→Prop} {Q:Exit→Act→World→Prop} (hn:∀aU v v' h' w',K v h'=some out→au aU v v'→Step E base B μ h w aU h' w'→next (a.put o.dst v') w'):o.wpIn F n P a w next Q:=by
 have hg:gB E μ:=H.dc;refine⟨fun _ _=>hF.fn _,?_⟩;rw[Oper.semAt_eq _ _ _ (OV hr)];unfold AM at hr;split at hr
 ·rename_i it jA;split at hr
  ·rename_i r hit;simp only[Option.bind_eq_some_iff]at hit;obtain⟨v1,h1,h2⟩:=hit;have e:=pc h2;subst e;obtain⟨m,hb,ex⟩:=(a9 hg hf h1).kl;have gN:m.s=0:=by
    obtain⟨o1,o2,k1,k2,k3⟩:=H.obj r m hb;unfold yq at hr;simp only[ai]at hr;have pX:=hr.2;cases k3 with
    |jb hs=>exact hs
    |l4 hs=>exact hs
    |cy _ hs=>exact hs
    |_=>rw[k1]at pX;simp at pX
   obtain⟨v,h',v',w',q0,q1,q2,q3⟩:=K6 (P:=P) H o.type hr hb;rw[gN]at ex;have he:(execOp a.eval o).run P w= .ok (.value v') w':=by
    unfold execOp;rw[jA];simp only[ex,Nat.add_zero,Sem.run_bind];rw[q1];simp
   rw[he];exact hn μ v v' h' w' q0 q2 q3
  ·cases hr
 ·split at hr
  ·rename_i v hp;obtain⟨v',q1,q2⟩:=pV hE hg hf hp;rw[q2 w];exact hn μ _ v' _ w hr q1 (.refl H)
  ·split at hr
   ·rename_i q hq;split at hr
    ·rename_i v hv;obtain⟨v',q1,q2⟩:=uf hE hf H hq hv;rw[q2];exact hn μ _ v' _ w hr q1 (.refl H)
    ·cases hr
   ·split at hr
    ·rename_i md hd cW;obtain⟨o',k,hv,S⟩:=nC hE hg hf cW;rw[S.run w];have st:=Step.alloc (o:=md.obj h.size) H (DC.mk' w o') k (fun cs f cA aQ hh=>by cases md<;>simp[Made.obj]at hh;exact⟨hh.2.1.symm,hh.2.2.1.symm⟩) (S.obj _ _ _ _ _ (gA H.fresh));exact hn _ _ _ _ _ hr (S.val _ _ _ (bN _ _ _)) st
    ·split at hr
     ·rename_i v h' he;obtain⟨aU,nx,v',w',q1,q2,q3,q4⟩:=xe hE hf H he;rw[q1];rcases q2 with rfl |⟨rfl,rfl⟩
      ·exact hn aU _ v' _ w' hr q3 q4
      ·exact hn aU _ undef _ w' hr q3 q4
     ·rename_i g args h' he;have xf:=BW _ _ _ _ _ hr;obtain⟨args',e,q1,q2⟩:=rq hE hf H he xf;subst e;rw[q2];refine⟨hF.ok n,(rz μ h' w g args args' K out hr q1 H F (n - 1) hF).mono ?_⟩;rintro e w' ⟨v,v',h2,aU,k0,rfl,k1,k2⟩;exact hn aU v v' h2 w' k0 k1 k2
     ·rename_i l args h' he;obtain⟨st,p,f0,ps,iW,body,hl,hlen⟩:=BX _ _ _ _ _ hr;have hh:h'=h:=by
       obtain⟨dst,op,type,pos,after,guard⟩:=o;cases op<;>simp only[da]at he<;>first|cases he|skip
       all_goals simp only[Option.bind_eq_some_iff,Option.some.injEq,Prod.mk.injEq,ai,reduceCtorEq,false_and,and_false,exists_false]at he
       ·obtain⟨_,_,_,_,he⟩:=he;split at he
        ·split at he<;>simp at he
        ·cases he
       ·obtain⟨_,_,he⟩:=he;split at he
        ·first|(simp at he;done)|(obtain⟨_,_,he⟩:=he;simp at he;done)|(simp only[Option.bind_eq_some_iff]at he;obtain⟨_,_,he⟩:=he;cases he)
        ·try simp only[Option.bind_eq_some_iff]at he
         obtain⟨_,_,he⟩:=he;split at he
         ·simp at he
         ·simp only[Option.some.injEq,Prod.mk.injEq]at he;exact he.2.symm
         ·cases he
        ·cases he
      subst hh;obtain⟨m,args',lo,_,hb,hw,q1,q2,q3⟩:=ry (P:=P) hf H he hl hlen;rw[q2];refine⟨hF.ok n,(BV μ h' w l args K out m f0 ps iW body st p lo.fn _ hr hl hb H (nK q3 q1) F (n - 1) hF).mono ?_⟩;rintro e w' ⟨v,v',h2,aU,k0,rfl,k1,k2⟩;exact hn aU v v' h2 w' k0 k1 k2
     ·cases hr
theorem yv (hE:bu P E) (rz:wG P E base B cK) (BV:yr P E base B rK) (BW:yu E cK) (BX:uF rK) {F:Fence} (hF:gO F) {n:Nat} {ops:Array Oper} {Q:Exit→Act→World→Prop} {K:AF→ab→Option Out} {out:Out}:∀(rest:List Oper) (k:Nat) (μ:bn) (f:AF) (h:ab) (a:Act) (w:World),
 (∀j,rest[j]? =ops[k+j]?)→oJ E base cK rK ops.toList rest f h K=some out→cY μ f a.tmps→bh E base B μ h w→
 (∀f' h' aU a' w',K f' h'=some out→cY aU f' a'.tmps→a'.defers=a.defers→Step E base B μ h w aU h' w'→Q .normal a' w')→wpOpsIn F n P ops Q (List.range' k rest.length) a w
 |[],k,μ,f,h,a,w,_,ha,hf,H,hQ=>hQ _ _ μ a w ha hf rfl (.refl H)
 |o::rest,k,μ,f,h,a,w,hk,ha,hf,H,hQ=>by
  have h0:ops[k]? =some o:=by simpa using(hk 0).symm
  have pd:∀j,rest[j]? =ops[k+1+j]? :=fun j=>by have:=hk (j+1);simpa[Nat.add_assoc,Nat.add_comm 1 j]using this
  simp only[List.length_cons,List.range'_succ,wpOpsIn,h0,rA hf];simp only[oJ]at ha;split at ha
  ·rename_i hw;rw[if_pos hw];refine R5 hE rz BV BW BX hF hf H ha fun aU v v' h' w' q0 q1 q2=>?_;refine yv hE rz BV BW BX hF rest (k+1) aU (f.put o.dst v) h' _ w' pd q0 ((hf.mono q2.le).put q1 o.dst) q2.rel fun f2 h2 uY a2 w2 p0 p1 p2 p3=>?_;exact hQ f2 h2 uY a2 w2 p0 p1 (by rw[p2];cases o.dst<;>rfl) (q2.trans p3)
  ·rename_i hw;rw[if_neg (by rw[hw];simp)];refine⟨fun _ _=>hF.fn _,?_⟩;refine yv hE rz BV BW BX hF rest (k+1) μ (f.put o.dst undef) h _ w pd ha (hf.put (.undef μ) o.dst) H fun f2 h2 uY a2 w2 p0 p1 p2 p3=>?_;exact hQ f2 h2 uY a2 w2 p0 p1 (by rw[p2];cases o.dst<;>rfl) p3
def CL (P:Program) (E:Env) (base B k:Nat):Prop:=
 ∀(c:Code) (f:AF) (h:ab) (K:KC) (out:Out),aL E base k c f h K=some out→
  ∀(μ:bn) (a:Act) (w:World) (W0:Nat) (rs:List Nat),cY μ f a.tmps→bh E base B μ h w→bU W0 μ w a.defers rs→W0≤w.heap.size→
  ∀(F:Fence) (n:Nat) (Q:Exit→Act→World→Prop),gO F→(F.round=none∨aY c=true)→
  (∀ex f' h' aU a' w' DP,K ex f' h'=some out→cY aU f' a'.tmps→bU W0 aU w' a'.defers DP→Step E base B μ h w aU h' w'→Q (pe ex) a' w')→c.wpIn F n P Q a w
theorem EN (run:K5):yu E (ef E base run):=by
 intro g args h K out hr;unfold ef at hr;split at hr
 ·cases hr
 ·rename_i fn Zq;rw[Zq];rfl
theorem K8 (run:K5):uF (jF base run):=by
 intro l args h K out hr;unfold jF at hr;simp only[ai]at hr;obtain⟨_,hr⟩:=hr;split at hr
 ·rename_i p f ps iW body hg;simp only[ai,Bool.and_eq_true,beq_iff]at hr;exact⟨_,_,_,_,_,_,hg,hr.1.1.1⟩
 ·cases hr
theorem Jr (hE:bu P E) (hO:iJ P E base B) {k:Nat} (hk:CL P E base B k):wG P E base B (ef E base (aL E base k)):=by
 intro μ h w g args args' K out hc hr H F n hF;unfold ef at hc;split at hc
 ·cases hc
 rename_i fn h1;split at hc
 ·rename_i r ho;refine(hO μ h w g args args' r.1 r.2 ho hr H F n hF).mono ?_;rintro e w' ⟨v',aU,rfl,k1,k2⟩;exact⟨_,v',_,aU,hc,rfl,k1,k2⟩
 ·split at hc
  ·cases hc
  rename_i c h2;simp only[ai,aG]at hc;obtain⟨hn,hc⟩:=hc;obtain⟨f1,f2,f3⟩:=hE.func _ _ h1;have fin:CallsIn F.plain n P g args' w (R4 E base B μ h w K out):=by
   refine callsIn_of_wp_marks f1 h2 (hF.fn _) ?_ rfl;refine hk c _ h _ out hc μ _ w w.heap.size [] (Ae hr hn) H .nil (Nat.le_refl _) F.plain n _ hF.plain (.inl rfl) ?_;intro ex fe he aU a' w' DP q0 q1 q2 q3
   have lv:∀vs,df E he fe fn.results.toList=some vs→K (cX vs) he=some out→LeavesInM F.plain n P fn a'.tmps (R4 E base B μ h w K out) a'.defers .returning w':=fun vs h3 h4=>
    nL a'.defers DP w' q2 q3 fun w2 s2=>by
     obtain⟨v',p1,p2⟩:=u9 (P:=P) hE q1 s2.rel h3;exact⟨v',p1,_,v',_,aU,h4,rfl,p2,s2⟩
   cases ex with
   |exit id=>simp at q0
   |normal=>
    simp only at q0;split at q0
    ·rename_i vs h3;exact lv vs h3 q0
    ·cases q0
   |ret=>
    simp only at q0;split at q0
    ·rename_i vs h3;exact lv vs h3 q0
    ·cases q0
  exact fin
end
section
variable {P:Program} {E:Env} {base B:Nat}
theorem OW {k:Nat} (hk:CL P E base B k):yr P E base B (jF base (aL E base k)):=by
 intro μ h w l args K out m f0 ps iW body st p fn tmps hr hl hb H hf F n hF;unfold jF at hr;simp only[ai,aG]at hr;obtain⟨bt,hr⟩:=hr;rw[hl]at hr;cases st with
 |ready=>
  simp only[ai,Bool.and_eq_true,beq_iff]at hr;obtain⟨⟨⟨hlen,Gl⟩,oO⟩,hr⟩:=hr;refine roundIn_of_wpIn (hF.fn _) ?_;refine hk iW _ h _ out hr μ _ w w.heap.size [] hf H .nil (Nat.le_refl _) (F.inRound m.r) n _ (hF.inRound _) (.inr Gl) ?_;intro ex1 f1 h1 fQ a1 w1 sn q0 q1 q2 s1;cases ex1 with
  |exit id=>simp at q0
  |ret=>simp at q0
  |normal=>
   simp only at q0;split at q0
   ·rename_i p1 f01 fO qw kb zF;have oB:=s1.le _ _ hb;obtain⟨Zt,e1,e2,e3,s2⟩:=mL s1.rel oB bt zF .busy p1;have VQ:Step E base B fQ h1 w1 fQ (h1.put l (.loop .busy p1 f01 fO qw kb)) {w1 with heap:=w1.heap.setIfInBounds m.r (.loop {Zt with state:=.busy})}:=by
     rw[←e3]at s2 ⊢;exact s2
    refine⟨{w1 with heap:=w1.heap.setIfInBounds m.r (.loop {Zt with state:=.busy})},?_,?_⟩
    ·unfold Instr.beginRound;simp only[Sem.run_bind,run_getLoop (P:=P) e1,Result.andThen_ok,cg (P:=P) e1 (fun _ _ _=>by simp),e2,Sem.run_pure]
    refine hk body f1 _ _ out q0 fQ a1 _ w.heap.size sn q1 VQ.rel (q2.step VQ) (by rw[Array.size_setIfInBounds];exact s1.grow.size) (F.inRound m.r) n _ (hF.inRound _) (.inr oO) ?_;intro ex f2 h2 vT a3 w3 rs3 q0 q3 q4 s3;have nM:=(s1.trans VQ);have MS:=s3.le _ _ oB;split at q0
    ·rename_i st2 p2 f02 oC VP NC Gk;have key:∀(IT:LoopState) (jump:Option Code),(jump.isNone=true→IT= .ready)→(jump.isNone=false→IT= .done)→∃w4,(Instr.endRound m.r jump).run P w3= .ok (.bool jump.isNone) w4∧Step E base B vT h2 w3 vT (h2.put l (.loop IT jump f02 oC VP NC)) w4:=by
      intro IT jump hj1 Um;obtain⟨Rl,d1,d2,d3,s4⟩:=mL s3.rel MS bt Gk IT jump;refine⟨_,?_,s4⟩;unfold Instr.endRound;simp only[Sem.run_bind,run_getLoop (P:=P) d1,Result.andThen_ok,cg (P:=P) d1 (fun _ _ _=>by simp),Sem.run_pure];cases hj:jump.isNone with
      |true=>rw[hj1 hj];simp
      |false=>rw[Um hj];simp
     cases ex with
     |normal=>
      obtain⟨w4,k1,k2⟩:=key .ready none (fun _=>rfl) (fun h=>by simp at h);exact⟨_,w4,k1,_,_,_,vT,q0,rfl,.bool _ _,(nM.trans s3).trans k2⟩
     |ret=>
      obtain⟨w4,k1,k2⟩:=key .done (some .ret) (fun h=>by simp at h) (fun _=>rfl);exact⟨_,w4,k1,_,_,_,vT,q0,rfl,.bool _ _,(nM.trans s3).trans k2⟩
     |exit id=>
      obtain⟨w4,k1,k2⟩:=key .done (some (.exit id)) (fun h=>by simp at h) (fun _=>rfl);exact⟨_,w4,k1,_,_,_,vT,q0,rfl,.bool _ _,(nM.trans s3).trans k2⟩
    ·cases q0
   ·cases q0
 |busy=>cases hr
 |done=>cases hr
 |exhausted=>cases hr
theorem R6 (hE:bu P E) (hO:iJ P E base B) (hD:BZ P E base B):∀k,CL P E base B k∧
 (∀(b:Code) (f:AF) (h:ab) (K:KC) (out:Out),aL E base k (.loop b) f h K=some out→
  ∀(μ:bn) (a:Act) (w:World) (W0:Nat) (rs:List Nat),cY μ f a.tmps→bh E base B μ h w→bU W0 μ w a.defers rs→W0≤w.heap.size→
  ∀(F:Fence) (n:Nat) (Q:Exit→Act→World→Prop),gO F→(F.round=none∨aY b=true)→
  (∀ex f' h' aU a' w' DP,K ex f' h'=some out→cY aU f' a'.tmps→bU W0 aU w' a'.defers DP→Step E base B μ h w aU h' w'→Q (pe ex) a' w')→Code.roundsIn F n P b Q k a w):=by
 intro k
 induction k with
 |zero=>exact⟨fun c f h K out hr=>by simp[aL]at hr,fun b f h K out hr=>by simp[aL]at hr⟩
 |succ k ih=>
  obtain⟨hk,ND⟩:=ih;have so:=Jr hE hO hk;have B3:=OW hk
  have DR:∀(b:Code) (f:AF) (h:ab) (K:KC) (out:Out),aL E base (k+1) (.loop b) f h K=some out→
   ∀(μ:bn) (a:Act) (w:World) (W0:Nat) (rs:List Nat),cY μ f a.tmps→bh E base B μ h w→bU W0 μ w a.defers rs→W0≤w.heap.size→
   ∀(F:Fence) (n:Nat) (Q:Exit→Act→World→Prop),gO F→(F.round=none∨aY b=true)→
   (∀ex f' h' aU a' w' DP,K ex f' h'=some out→cY aU f' a'.tmps→bU W0 aU w' a'.defers DP→Step E base B μ h w aU h' w'→Q (pe ex) a' w')→Code.roundsIn F n P b Q (k+1) a w:=by
   intro b f h K out hr μ a w W0 rs hf H hm hW F n Q hF xh hQ;simp only[aL]at hr;rw[roundsIn_succ];refine hk b f h _ out hr μ a w W0 rs hf H hm hW F n _ hF xh fun ex f1 h1 fQ a1 w1 sn q0 q1 q2 s1=>?_;cases ex with
   |normal=>exact ND b f1 h1 K out q0 fQ a1 w1 W0 sn q1 s1.rel q2 (Nat.le_trans hW s1.grow.size) F n Q hF xh fun ex f2 h2 uY a2 w2 VS p0 p1 p2 s2=>hQ ex f2 h2 uY a2 w2 VS p0 p1 p2 (s1.trans s2)
   |exit id=>exact hQ _ f1 h1 fQ a1 w1 sn q0 q1 q2 s1
   |ret=>exact hQ _ f1 h1 fQ a1 w1 sn q0 q1 q2 s1
  refine⟨?_,DR⟩;intro c f h K out hr μ a w W0 rs hf H hm hW F n Q hF xh hQ;cases c with
  |skip=>exact wpIn_skip (hQ .normal f h μ a w rs (by simpa[aL]using hr) hf hm (.refl H))
  |exit id=>exact wpIn_exit (hQ (.exit id) f h μ a w rs (by simpa[aL]using hr) hf hm (.refl H))
  |ret=>exact wpIn_ret (hQ .ret f h μ a w rs (by simpa[aL]using hr) hf hm (.refl H))
  |seq x y=>
   simp only[aL]at hr;have hx:F.round=none∨aY x=true:=xh.imp (fun h=>h) fun h=>by simp[aY]at h;exact h.1
   have hy:F.round=none∨aY y=true:=xh.imp (fun h=>h) fun h=>by simp[aY]at h;exact h.2
   refine wpIn_seq ?_;refine hk x f h _ out hr μ a w W0 rs hf H hm hW F n _ hF hx fun ex f1 h1 fQ a1 w1 sn q0 q1 q2 s1=>?_;cases ex with
   |normal=>exact hk y f1 h1 K out q0 fQ a1 w1 W0 sn q1 s1.rel q2 (Nat.le_trans hW s1.grow.size) F n Q hF hy fun ex f2 h2 uY a2 w2 VS p0 p1 p2 s2=>hQ ex f2 h2 uY a2 w2 VS p0 p1 p2 (s1.trans s2)
   |exit id=>exact hQ _ f1 h1 fQ a1 w1 sn q0 q1 q2 s1
   |ret=>exact hQ _ f1 h1 fQ a1 w1 sn q0 q1 q2 s1
  |cond cx x y=>
   simp only[aL]at hr;have hx:F.round=none∨aY x=true:=xh.imp (fun h=>h) fun h=>by simp[aY]at h;exact h.1
   have hy:F.round=none∨aY y=true:=xh.imp (fun h=>h) fun h=>by simp[aY]at h;exact h.2
   cases hb:(ev E f cx).bind Dl with
   |none=>rw[hb]at hr;cases hr
   |some b=>
    simp only[Option.bind_eq_some_iff]at hb;obtain⟨v,h1,h2⟩:=hb;have hb:(ev E f cx).bind Dl=some b:=by simp[h1,h2]
    rw[hb]at hr;have e:=w6 h2;subst e;have hc:=(a9 H.dc hf h1).ax rfl;cases b with
    |true=>exact wpIn_cond_true hc (hk x f h K out hr μ a w W0 rs hf H hm hW F n Q hF hx hQ)
    |false=>exact wpIn_cond_false hc (hk y f h K out hr μ a w W0 rs hf H hm hW F n Q hF hy hQ)
  |block id b=>
   simp only[aL]at hr;have bX:F.round=none∨aY b=true:=xh.imp (fun h=>h) fun h=>by simpa[aY]using h
   refine wpIn_block ?_;refine hk b f h _ out hr μ a w W0 rs hf H hm hW F n _ hF bX fun ex f1 h1 fQ a1 w1 sn q0 q1 q2 s1=>?_;cases ex with
   |normal=>exact hQ _ f1 h1 fQ a1 w1 sn q0 q1 q2 s1
   |ret=>exact hQ _ f1 h1 fQ a1 w1 sn q0 q1 q2 s1
   |exit nk=>
    simp only[bY]at q0;show(if nk=id then Q .normal a1 w1 else Q (.exit nk) a1 w1);by_cases e:nk=id
    ·rw[if_pos (beq_iff.2 e)]at q0;rw[if_pos e];exact hQ _ f1 h1 fQ a1 w1 sn q0 q1 q2 s1
    ·rw[if_neg (fun hh=>e (beq_iff.1 hh))]at q0;rw[if_neg e];exact hQ _ f1 h1 fQ a1 w1 sn q0 q1 q2 s1
  |loop b=>
   exact wpIn_loop_rounds (k+1) (DR b f h K out hr μ a w W0 rs hf H hm hW F n Q hF (xh.imp (fun h=>h) fun h=>by simpa[aY]using h) hQ)
  |region id ops draw=>
   simp only[aL]at hr;cases draw with
   |false=>
    refine wpIn_region ?_;have:=yv hE so B3 (EN _) (K8 _) hF (n:=n) (ops:=ops) (Q:=Q) ops.toList 0 μ f h a w (fun j=>by simp) hr hf H fun f' h' fQ a1 w1 q0 q1 q2 s1=>hQ _ f' h' fQ a1 w1 rs q0 q1 (by rw[q2];exact hm.step s1) s1;rw[List.range_eq_range',←Array.length_toList];exact this
   |true=>
    simp only at hr;split at hr
    ·rename_i ex f' h' adT;have aaA:a8 E base (k+1) (.region id ops true) f h=some (ex,f',h'):=by simpa only[a8]using adT
     exact(codeOk hE hO hD (k+1)).1 _ f h ex f' h' aaA μ a w W0 rs hf H hm hW F n Q hF xh fun aU a' w' DP q1 q2 s1=>hQ ex f' h' aU a' w' DP hr q1 q2 s1
    ·cases hr
  |rangeFunc g ps iW body=>
   have tU:F.round=none:=xh.resolve_right (by simp[aY]);simp only[aL]at hr;split at hr
   ·rename_i gid first captured h1
    simp only[ai,aG]at hr;obtain⟨bt,hc⟩:=hr;have zt:=a9 H.dc hf h1;generalize hq:a.eval g=q at zt;cases zt with
    |lit hh=>simp[aC]at hh
    |func t1 t2 t3 t4=>
     rename_i ru jg;refine wpIn_rangeFunc fun fn _=>?_
     let wA:World:={w with heap:=w.heap.push (.deferred (some []))}
     let lo:Loop:={state:=.ready,pending:=none,fn:=fn,tmps:=a.tmps,params:=ps,assign:=iW,body:=body,defers:=w.heap.size}
     let wB:World:={wA with heap:=wA.heap.push (.loop lo)}
     have sA:Step E base B μ h w μ h wA:=Step.Zr H (DC.mk' w _);have acL:wA.heap.size=w.heap.size+1:=by simp[wA]
     have sB:=Step.alloc (o:=.loop .ready none f ps.toList iW body) sA.rel (DC.mk' wA (.loop lo)) 0 (fun _ _ _ _ hh=>by cases hh) (by
      have:=iX.loop (μ:=kN μ h.size ⟨wA.heap.size,0,0⟩) (h:=h.push (.loop .ready none f ps.toList iW body)) (base:=base) (b:=h.size) (m:=⟨wA.heap.size,0,0⟩) (st:=.ready) (p:=none) (ps:=ps.toList) (iW:=iW) (body:=body) (fn:=fn) (d:=w.heap.size) (hf.mono (gA H.fresh));simpa using this)
     let mk:Deferred:={target:=.collected w.heap.size,args:= #[]}
     have Yu:ui W0 μ wA mk w.heap.size:=⟨rfl,by simp[wA],fun b m hb he=>by have:=H.lt hb;omega,hW⟩;have Rj:w.heap.size∉rs:=by
      have:∀{ds:List Deferred} {rs:List Nat},bU W0 μ w ds rs→∀r∈rs,r<w.heap.size:=by
       intro ds rs k
       induction k with
       |nil=>intro r hr;simp at hr
       |cons h1 _ _ ih=>intro r hr;rcases List.mem_cons.1 hr with rfl |hr
                        ·exact(Array.getElem?_eq_some_iff.1 h1.obj).1
                        ·exact ih r hr
      intro l7;have:=this hm _ l7;omega
     have hmarks:bU W0 μ wA (mk::a.defers) (w.heap.size::rs):=.cons Yu Rj (hm.step sA)
     let args':Array Value:=ru++ #[.func (.yield wA.heap.size) #[] #[]]++jg
     have xf:=EN (E:=E) _ _ _ _ _ _ hc;obtain⟨Zu,VT⟩:=Option.isSome_iff_exists.1 xf;obtain⟨g1,g2,g3⟩:=hE.func _ _ VT;have hbn:Zu.body.isNone=false:=by cases hx:Zu.body<;>simp_all
     have ke:ay (kN μ h.size ⟨wA.heap.size,0,0⟩) (first.toList++[.func (.yield h.size) #[] #[]]++captured.toList) args'.toList:=by
      have hle:μ.le (kN μ h.size ⟨wA.heap.size,0,0⟩):=gA H.fresh;have v1:=(ay.ny t1 t2).mono hle;have v3:=(ay.ny t3 t4).mono hle;have v2:=ay.cons (au.yield (bN μ h.size ⟨wA.heap.size,0,0⟩)) .nil;simpa[args']using(v1.append v2).append v3
     refine⟨wA.heap.size,[mk],wB,{target:=.fn (.func gid) jg,args:=ru++ #[.func (.yield wA.heap.size) #[] #[]]},wB,gid,args',wB,?_,?_,fun _ _=>hF.fn _,?_,hF.ok n,?_⟩
     ·rw[tU];unfold Instr.enterLoop;simp only[Sem.run_bind,run_newObj,Result.andThen_ok,Sem.run_pure];rfl
     ·have hcv:∀v:Value,a.eval (.const v)=v:=fun _=>rfl;simp[resolve,hq,Deferred.ofValue,Sem.run_pure,hcv]
     ·simp only[invoke,callFunc,Sem.run_bind,run_program,Result.andThen_ok,g1,g3,hbn,Bool.false_eq_true,if_false,Sem.run_pure];rfl
     ·refine(so _ _ wB gid _ args' _ out hc ke sB.rel F (n - 1) hF).mono ?_;rintro e w3 ⟨rv,v',h2,vT,q0,rfl,k1,s3⟩;have MS:vT h.size=some ⟨wA.heap.size,0,0⟩:=s3.le _ _ (bN _ _ _);simp only at q0;split at q0
      ·rename_i st p f0 MN vQ ou hl;simp only[ai]at q0;obtain⟨bW,q0⟩:=q0;obtain⟨Rl,d1,d2,d3,s4⟩:=mL s3.rel MS bt hl .exhausted p;have VU:Step E base B vT h2 w3 vT (h2.put h.size (.loop .exhausted p f0 MN vQ ou)) {w3 with heap:=w3.heap.setIfInBounds wA.heap.size (.loop {Rl with state:=.exhausted})}:=by
        rw[←d3]at s4 ⊢;exact s4
       have nM:=((sA.trans sB).trans s3).trans VU;have Zv:bU W0 vT {w3 with heap:=w3.heap.setIfInBounds wA.heap.size (.loop {Rl with state:=.exhausted})} (mk::a.defers) (w.heap.size::rs):=((hmarks.step sB).step s3).step VU;refine⟨p,{w3 with heap:=w3.heap.setIfInBounds wA.heap.size (.loop {Rl with state:=.exhausted})},?_,?_⟩
       ·unfold Instr.endLoop;simp only[Sem.run_bind,run_getLoop (P:=P) d1,Result.andThen_ok];rw[if_neg (by rw[d2];intro hh;rw[bne_iff_ne]at bW;exact bW (eq_of_beq hh))];simp only[Sem.run_bind,cg (P:=P) d1 (fun _ _ _=>by simp),Result.andThen_ok,Sem.run_pure,d3]
       ·cases p with
        |none=>exact hQ _ f _ vT _ _ _ q0 (hf.mono nM.le) Zv nM
        |some cj=>
         exact hk cj f _ K out q0 vT {a with defers:=mk::a.defers} _ W0 _ (hf.mono nM.le) VU.rel Zv (Nat.le_trans hW nM.grow.size) F n Q hF (.inl tU) fun ex f5 h5 μ5 a5 w5 rs5 p0 p1 p2 s5=>hQ ex f5 h5 μ5 a5 w5 rs5 p0 p1 p2 (nM.trans s5)
      ·cases q0
   ·cases hr
  |scope b=>simp only[aL]at hr;cases hr
  |label l=>simp only[aL]at hr;cases hr
  |goto l=>simp only[aL]at hr;cases hr
  |refuse s=>simp only[aL]at hr;cases hr
theorem sX (hE:bu P E) (hO:iJ P E base B) (hm:P.follows .mixedOrders=true) (n:Nat):wG P E base B (Jq E base n):=
 Jr hE hO (R6 hE hO (IX hE hm) n).1
end
def EO (base:Nat):KV:=fun v h'=>match v with
 | .slice (some ⟨b,o,some z⟩) len _=>(ae h' b o (len*z)).bind fun cs=>bF (Nat.ble base b&&Nat.blt 0 len&&cs.all scalar) (some (.bool false::goInt len::goInt z::cs))
 |v=>bF (aC v) (some [.bool true,v])
def yx (h:ab):Out→Option (Value×ab)
 |[.bool true,v]=>bF (aC v) (some (v,h))
 | .bool false:: .int _ (.ofNat len):: .int _ (.ofNat z)::cs=>some (.slice (some ⟨h.size,0,some z⟩) len (len+1),h.push (.cells cs h.size (h.size+1) 0))
 |_=>none
noncomputable def EP (E:Env) (n:Nat):fJ:=fun g args h=>(Jq E h.size n g args h (EO h.size)).bind (yx h)
theorem bh.ext {E:Env} {base B:Nat} {μ:bn} {h:ab} {w w':World} (H:bh E base B μ h w) (hs:w.heap.size≤w'.heap.size) (hk:∀r,r<w.heap.size→w'.heap[r]? =w.heap[r]?):bh E base B μ h w':=
 ⟨H.gh,H.high,fun b m hb=>by
  obtain⟨p,p',k1,k2,k3⟩:=H.obj b m hb;exact⟨p,p',k1,by rw[hk _ (H.lt hb)];exact k2,k3⟩,H.own,H.alias,H.dr,H.dc,Nat.le_trans H.low hs,H.l5,H.wf,H.root⟩
theorem bh.CM {E E0:Env} {base B:Nat} {μ:bn} {h:ab} {w:World} (H:bh E base B μ h w) (hg:∀g,E0.dc g=true→E.dc g=true):bh E0 h.size w.heap.size μ h w:=
 ⟨H.gh,H.high,fun b m hb=>by
  obtain⟨p,p',k1,k2,k3⟩:=H.obj b m hb;have hd:=H.gh b m hb;refine⟨p,p',k1,k2,?_⟩;cases k3 with
  |cells hn hl hf hc=>exact .cells hn hl (fun h=>by omega) hc
  |map hs=>exact .map hs
  |jb hs=>exact .jb hs
  |l4 hs=>exact .l4 hs
  |cy hk hs=>exact .cy hk hs
  |loop hf=>exact .loop hf
  |gZ hp hs hc hn=>exact .gZ hp hs hc hn,fun b m hb Dn=>by have:=H.gh b m hb;omega,fun b1 b2 m1 m2 h1 h2 _ _ Dn=>by have:=H.gh b1 m1 h1;have:=H.gh b2 m2 h2;omega,H.dr,fun g VY=>H.dc g (hg g VY),Nat.le_refl _,Nat.le_refl _,H.wf,H.root⟩
section
variable {P:Program} {E E0:Env} {base B:Nat}
theorem rS {μ:bn} {h hX:ab} {w:World} (H:bh E base B μ h w) (_:hX.size=h.size) {out:Out} {v:Value} {h':ab} (oc:yx h out=some (v,h')) {u u':Value} {h1:ab} {fQ:bn} {w':World}
 (hK:EO h.size u h1=some out) (hv:au fQ u u') (S:Step E0 h.size w.heap.size μ hX w fQ h1 w'):lI E base B μ h w v h' (.returned u') w':=by
 have hold:∀r,r<w.heap.size→w'.heap[r]? =w.heap[r]? :=fun r kQ=>S.grow.bl r kQ fun b m hb _=>H.gh b m hb;have Hx:=H.ext S.grow.size hold;have gr:Grow base μ w w':=⟨S.grow.tape,S.grow.os,S.grow.output,S.grow.size,fun r kQ _=>hold r kQ⟩;have plain:∀v:Value,aC v=true→yx h [.bool true,v]=some (v,h):=fun v hp=>by simp[yx,bF,hp]
 unfold EO at hK;split at hK
 ·rename_i b o z len cap;simp only[Option.bind_eq_some_iff,ai,Bool.and_eq_true,aG,aS,Option.some.injEq]at hK;obtain⟨cs,fP,⟨⟨Dn,hlen⟩,hsc⟩,rfl⟩:=hK;simp only[yx,goInt,Option.some.injEq,Prod.mk.injEq]at oc;obtain⟨rfl,rfl⟩:=oc;cases hv with
  |lit hh=>simp[aC]at hh
  |cP hb=>omega
  |slice hb q1 q2 q3 q4=>
   rename_i cap' m;obtain⟨o1,o2,k1,k2,k3⟩:=S.rel.obj b m hb;obtain⟨rc1,rc2⟩:=S.rel.ae hb fP;have HB:w.heap.size≤m.r:=by
    have hn:μ b=none:=by
     cases hx:μ b with
     |none=>rfl
     |some mx=>have:=H.gh b mx hx;omega
    rcases(S.new b m hn hb).2.2 with h5|⟨b0,m0,r1,r2,_⟩
    ·exact h5
    ·have:=H.gh b0 m0 r2;omega
   let m2:MT:=⟨m.r,m.s+o,m.n⟩
   have Hp:=Hx.NL (o:=.cells cs h.size (h.size+1) 0) (fun _ _ _ _ hh=>by cases hh;rfl);have dK:(h.push (.cells cs h.size (h.size+1) 0)).get h.size=some (.cells cs h.size (h.size+1) 0):=by rw[ab.aq,if_pos rfl]
   obtain⟨c0,e0,UP,B7,Re,rz,rZ⟩:∃c e fr,w'.heap[m.r]? =some (.cells c e fr)∧c.size=m.n∧mH fr m.n∧(∀(i:Nat) v,cs[i]? =some v→∃v',c[m.s+o+i]? =some v'∧au fQ v v'):=by
    have HD:=fP;unfold M.ae at HD;simp only[Option.bind_eq_some_iff]at HD;obtain⟨Ji,Nd,_⟩:=HD;obtain⟨c,e,fr,t1,t2,t3,t4,t5⟩:=S.rel.read hb Nd;refine⟨c,e,fr,t1,t2,t4 Dn,fun i v hv=>?_⟩;obtain⟨v',s1,s2⟩:=rc2 i v hv;refine⟨v',?_,s2⟩;simpa[World.cell?,t1]using s1
   have hle:m.s+o+cs.length≤m.n:=by
    rw[rc1];have:len*z≤cap'*z:=Nat.mul_le_mul_right z q2;omega
   have UQ:∀(i:Nat) v,cs[i]? =some v→scalar v=true:=fun i v hv=>List.all_eq_true.1 hsc v (List.mem_of_getElem? hv);have ho:iX (kN μ h.size m2) (h.push (.cells cs h.size (h.size+1) 0)) base h.size m2 (.cells cs h.size (h.size+1) 0) (.cells c0 e0 UP):=by
    refine .cells Re hle (fun _=>rz) fun _ i v hv=>?_;obtain⟨v',s1,s2⟩:=rZ i v hv;have:=s2.ax (UQ i v hv);subst this;exact⟨v',s1,.pU _ (UQ i v' hv)⟩
   have Ht:=Hp.IU (b:=h.size) (m:=m2) (by simp[ab.size_push]) dK H.fresh H.l5 (by have:=H.low;show B≤m.r;omega) B7
    (fun d md hd he=>by have:=H.lt hd;simp only[m2]at he;omega) (fun _ _ _ _ hh=>by cases hh;exact⟨rfl,om⟩) (fun _ _ hh=>by simp at hh) ho
   refine⟨_,kN μ h.size m2,rfl,?_,Ht,gr,gA H.fresh,fun d md h0 hd=>?_,fun d hd _=>by rw[ab.aq,if_neg om],by simp[ab.size_push]⟩
   ·have:=au.slice (μ:=kN μ h.size m2) (b:=h.size) (o:=0) (z:=z) (len:=len) (cap:=len+1) (cap':=cap') (m:=m2) (bN _ _ _) om q2 (fun h=>by omega) (by simpa[m2]using q4);simpa[m2]using this
   ·by_cases ed:d=h.size
    ·subst ed;rw[bN]at hd;cases hd;exact⟨Nat.le_refl _,H.l5,.inl HB⟩
    ·rw[o5 _ _ ed,h0]at hd;cases hd
 ·simp only[ai,Option.some.injEq]at hK;obtain⟨hp,rfl⟩:=hK;rw[plain _ hp]at oc;simp only[Option.some.injEq,Prod.mk.injEq]at oc;obtain⟨rfl,rfl⟩:=oc;have:u'=u:=by cases u<;>simp[aC]at hp<;>cases hv<;>first|rfl |simp_all
  subst this;exact⟨u',μ,rfl,.lit hp,Hx,gr,μ.le_refl,fun b m h0 h1=>(by rw[h0]at h1;cases h1),fun _ _ _=>rfl,Nat.le_refl _⟩
theorem OX (hE0:bu P E0) (hO:∀base B,iJ P E0 base B) (hm:P.follows .mixedOrders=true) (hg:∀g,E0.dc g=true→E.dc g=true) (k:Nat):j8 P E base B (EP E0 k):=by
 intro μ h w g args args' v h' hc hr H F n hF;unfold EP at hc;simp only[Option.bind_eq_some_iff]at hc;obtain⟨out,gD,oc⟩:=hc;have H2:=H.CM hg;refine(sX hE0 (hO _ _) hm k μ h w g args args' _ out gD hr H2 F n hF).mono ?_;rintro e w' ⟨u,u',h1,fQ,hK,rfl,hv,S⟩;exact rS H rfl oc hK hv S
end
noncomputable def afA (P:Program) (fs:List Nat) (n:Nat):FuncId→List Value→ab→Option (Value×ab):=fun g args h=>
 match fs.contains g with
 |true=>EP (ij P jJ) n g args h
 |false=>none
def R7 (x:Int):List Int→List Int
 |[]=>[x]
 |y::l=>bif Int.blt' x y then x::y::l else y::R7 x l
where Int.blt' (x y:Int):Bool:=decide (x<y)
def vD:List Int→List Int
 |[]=>[]
 |x::l=>R7 x (vD l)
theorem AO (x:Int):∀l,(R7 x l).Perm (x::l)
 |[]=>.refl _
 |y::l=>by
  unfold R7;rw[bY];split
  ·exact .refl _
  ·exact((AO x l).cons y).trans (.swap x y l)
theorem yz:∀l,(vD l).Perm l
 |[]=>.refl _
 |x::l=>(AO x _).trans ((yz l).cons x)
def vE:List Value→Option (List Int)
 |[]=>some []
 | .int .i64 x::l=>(vE l).bind fun r=>some (x::r)
 |_=>none
theorem yA:∀{l:List Value} {r:List Int},vE l=some r→l=r.map (.int .i64)
 |[],r,h=>by simp[vE]at h;subst h;rfl
 | .int .i64 x::l,r,h=>by
  simp only[vE,Option.bind_eq_some_iff,Option.some.injEq]at h;obtain⟨r',h1,rfl⟩:=h;rw[yA h1];rfl
def aaC (base:Nat):KV:=fun v h'=>match v with
 | .slice (some ⟨b,o,some 1⟩) len _=>(ae h' b o len).bind fun cs=>(vE cs).bind fun xs=>bF (Nat.ble base b&&Nat.blt 0 len) (some (.bool false::goInt len::(vD xs).map (.int .i64)))
 |v=>bF (aC v) (some [.bool true,v])
def R8 (h:ab):Out→Option (Value×ab)
 |[.bool true,v]=>bF (aC v) (some (v,h))
 | .bool false:: .int _ (.ofNat len)::cs=>(vE cs).bind fun xs=>some (.slice (some ⟨h.size,0,some 1⟩) len (len+1),h.push (.gZ xs))
 |_=>none
noncomputable def CN (E:Env) (n:Nat):fJ:=fun g args h=>(Jq E h.size n g args h (aaC h.size)).bind (R8 h)
theorem AP:∀l:List Int,vE (l.map (.int .i64))=some l
 |[]=>rfl
 |x::l=>by simp[vE,AP l]
section
variable {P:Program} {E E0:Env} {base B:Nat}
theorem K9 (hE0:bu P E0) (hO:∀base B,iJ P E0 base B) (hm:P.follows .mixedOrders=true) (hg:∀g,E0.dc g=true→E.dc g=true) (k:Nat):j8 P E base B (CN E0 k):=by
 intro μ h w g args args' v h' hc hr H F n hF;unfold CN at hc;simp only[Option.bind_eq_some_iff]at hc;obtain⟨out,gD,oc⟩:=hc;have H2:=H.CM hg;refine(sX hE0 (hO _ _) hm k μ h w g args args' _ out gD hr H2 F n hF).mono ?_;rintro e w' ⟨u,u',h1,fQ,hK,rfl,hv,S⟩;have hold:∀r,r<w.heap.size→w'.heap[r]? =w.heap[r]? :=fun r kQ=>S.grow.bl r kQ fun b m hb _=>H.gh b m hb;have Hx:=H.ext S.grow.size hold;have gr:Grow base μ w w':=⟨S.grow.tape,S.grow.os,S.grow.output,S.grow.size,fun r kQ _=>hold r kQ⟩;have plain:∀v:Value,aC v=true→R8 h [.bool true,v]=some (v,h):=fun v hp=>by simp[R8,bF,hp]
 unfold aaC at hK;split at hK
 ·rename_i b o len cap;simp only[Option.bind_eq_some_iff,ai,Bool.and_eq_true,aG,aS,Option.some.injEq]at hK;obtain⟨cs,fP,xs,MQ,⟨Dn,hlen⟩,rfl⟩:=hK;have o7:=yA MQ;simp only[R8,goInt,AP,Option.bind_some,Option.some.injEq,Prod.mk.injEq]at oc;obtain⟨rfl,rfl⟩:=oc;cases hv with
  |lit hh=>simp[aC]at hh
  |cP hb=>omega
  |slice hb q1 q2 q3 q4=>
   rename_i cap' m;obtain⟨rc1,rc2⟩:=S.rel.ae hb fP;have HB:w.heap.size≤m.r:=by
    have hn:μ b=none:=by
     cases hx:μ b with
     |none=>rfl
     |some mx=>have:=H.gh b mx hx;omega
    rcases(S.new b m hn hb).2.2 with h5|⟨b0,m0,r1,r2,_⟩
    ·exact h5
    ·have:=H.gh b0 m0 r2;omega
   let m2:MT:=⟨m.r,m.s+o,m.n⟩
   have Hp:=Hx.NL (o:=.gZ (vD xs)) (fun _ _ _ _ hh=>by cases hh);have dK:(h.push (.gZ (vD xs))).get h.size=some (.gZ (vD xs)):=by rw[ab.aq,if_pos rfl]
   obtain⟨c0,e0,UP,B7,Re,rZ⟩:∃c e fr,w'.heap[m.r]? =some (.cells c e fr)∧c.size=m.n∧(∀(i:Nat) v,cs[i]? =some v→∃v',c[m.s+o+i]? =some v'∧au fQ v v'):=by
    have HD:=fP;unfold M.ae at HD;simp only[Option.bind_eq_some_iff]at HD;obtain⟨Ji,Nd,_⟩:=HD;obtain⟨c,e,fr,t1,t2,t3,t4,t5⟩:=S.rel.read hb Nd;refine⟨c,e,fr,t1,t2,fun i v hv=>?_⟩;obtain⟨v',s1,s2⟩:=rc2 i v hv;refine⟨v',?_,s2⟩;simpa[World.cell?,t1]using s1
   have hxl:xs.length=len:=by rw[←rc1,o7];simp
   have ho:iX (kN μ h.size m2) (h.push (.gZ (vD xs))) base h.size m2 (.gZ (vD xs)) (.cells c0 e0 UP):=by
    refine .gZ (l:=xs) (yz xs).symm (by show m.s+o+xs.length≤m.n;omega) (fun i x hx=>?_) Re;obtain⟨v',s1,s2⟩:=rZ i (.int .i64 x) (by rw[o7];simp[hx]);have:=s2.ax rfl;subst this;exact s1
   have Ht:=Hp.IU (b:=h.size) (m:=m2) (by simp[ab.size_push]) dK H.fresh H.l5 (by have:=H.low;show B≤m.r;omega) B7
    (fun d md hd he=>by have:=H.lt hd;simp only[m2]at he;omega) (fun _ _ _ _ hh=>by cases hh) (fun _ _ hh=>by cases hh) ho
   refine⟨_,kN μ h.size m2,rfl,?_,Ht,gr,gA H.fresh,fun d md h0 hd=>?_,fun d hd _=>by rw[ab.aq,if_neg om],by simp[ab.size_push]⟩
   ·have:=au.slice (μ:=kN μ h.size m2) (b:=h.size) (o:=0) (z:=1) (len:=len) (cap:=len+1) (cap':=cap') (m:=m2) (bN _ _ _) om q2 (fun h=>by omega) (by simpa[m2]using q4);simpa[m2]using this
   ·by_cases ed:d=h.size
    ·subst ed;rw[bN]at hd;cases hd;exact⟨Nat.le_refl _,H.l5,.inl HB⟩
    ·rw[o5 _ _ ed,h0]at hd;cases hd
 ·simp only[ai,Option.some.injEq]at hK;obtain⟨hp,rfl⟩:=hK;rw[plain _ hp]at oc;simp only[Option.some.injEq,Prod.mk.injEq]at oc;obtain⟨rfl,rfl⟩:=oc;have:u'=u:=by cases u<;>simp[aC]at hp<;>cases hv<;>first|rfl |simp_all
  subst this;exact⟨u',μ,rfl,.lit hp,Hx,gr,μ.le_refl,fun b m h0 h1=>(by rw[h0]at h1;cases h1),fun _ _ _=>rfl,Nat.le_refl _⟩
end
def uG (x:Int):List Int→List (List Int)
 |[]=>[[x]]
 |y::l=>(x::y::l)::(uG x l).map (y::·)
def perms:List Int→List (List Int)
 |[]=>[[]]
 |x::l=>(perms l).flatMap (uG x)
theorem yB (x:Int):∀a b:List Int,a++x::b∈uG x (a++b)
 |[],[]=>by simp[uG]
 |[],y::b=>by simp[uG]
 |y::a,b=>by
  simp only[List.cons_append,uG,List.mem_cons,List.mem_map];exact .inr ⟨_,yB x a b,rfl⟩
theorem AQ:∀{cs l:List Int},l.Perm cs→l∈perms cs
 |[],l,h=>by simp[perms,h.eq_nil]
 |x::cs,l,h=>by
  have hx:x∈l:=h.mem_iff.2 List.mem_cons_self;obtain⟨a,b,rfl⟩:=List.append_of_mem hx;have hp:(a++b).Perm cs:=(List.perm_middle.symm.trans h).cons_inv;simp only[perms,List.mem_flatMap];exact⟨a++b,AQ hp,yB x a b⟩
def sY (h:ab):List Value→Option (Nat×List Int)
 |[]=>none
 | .slice (some ⟨b,_,some _⟩) _ cap::l=>(match Nat.beq cap 0,h.get b with
  |false,some (.gZ cs)=>some (b,cs)
  |_,_=>sY h l)
 |_::l=>sY h l
def HE (h:ab) (b:Nat):Bool:=(List.range h.size).all fun c=>match h.get c with
 |some (.cells _ f _ _)=> !Nat.beq f b
 |_=>true
noncomputable def CO (E:Env) (n:Nat):fJ:=fun g args h=>(sY h args).bind fun r=>bF (Nat.blt r.1 h.size&&HE h r.1)<|
 (meet ((perms r.2).map fun l=>Jq E h.size n g args (h.put r.1 (.cells (l.map (.int .i64)) r.1 h.size 0)) (EO h.size))).bind (yx h)
theorem La {h:ab} {args:List Value} {r:Nat×List Int} (hr:sY h args=some r):h.get r.1=some (.gZ r.2):=by
 induction args with
 |nil=>simp[sY]at hr
 |cons v l ih=>
  unfold sY at hr;split at hr
  ·cases hr
  ·rename_i b o z len cap l' heq;simp only[List.cons.injEq]at heq;obtain⟨_,rfl⟩:=heq;split at hr
   ·rename_i cs hg;simp only[Option.some.injEq]at hr;subst hr;exact hg
   ·exact ih hr
  ·rename_i v' l' _ heq;simp only[List.cons.injEq]at heq;obtain⟨_,rfl⟩:=heq;exact ih hr
section
variable {P:Program} {E E0:Env} {base B:Nat}
theorem bh.aaD {μ:bn} {h:ab} {w:World} (H:bh E base B μ h w) (adX:∀b,b<h.size→b<base) {b:Nat} {m:MT} (hb:μ b=some m) {cs:List Int} (hg:h.get b=some (.gZ cs)) (hn:HE h b=true):
 ∃l:List Int,l.Perm cs∧bh E base B μ (h.put b (.cells (l.map (.int .i64)) b h.size 0)) w:=by
 obtain⟨p,p',k1,k2,k3⟩:=H.obj b m hb;rw[hg]at k1;cases k1;have YO:=H.gh b m hb;cases k3 with
 |gZ hp hl hc Re=>
  rename_i c e fr l;refine⟨l,hp,?_⟩;have bQ:∀c cs' f t th,h.get c=some (.cells cs' f t th)→f≠b:=by
   intro c cs' f t th sy UR;have o7:c<h.size:=by
    rcases Nat.lt_or_ge c h.size with h1|h1
    ·exact h1
    ·rw[H.high c h1]at sy;cases sy
   unfold HE at hn;have:=List.all_eq_true.1 hn c (List.mem_range.2 o7);rw[sy]at this;simp[UR]at this
  have CP:∀c,c≠b→(h.put b (.cells (l.map (.int .i64)) b h.size 0)).get c=h.get c:=fun c hc=>by rw[ab.bJ,if_neg hc]
  have o8:(h.put b (.cells (l.map (.int .i64)) b h.size 0)).get b=some (.cells (l.map (.int .i64)) b h.size 0):=by rw[ab.bJ,if_pos rfl]
  have jf:∀c,c≠b→(h.put b (.cells (l.map (.int .i64)) b h.size 0)).dr c=h.dr c:=by
   intro c hc;apply sa;intro r;obtain⟨f,cA,aQ⟩:=r;rw[g8,g8];constructor
   ·rintro⟨cs',t0,eX,c0,q1,q2⟩;rw[CP c hc]at q1;have UR:=bQ _ _ _ _ _ q1;rw[CP f UR]at q2;exact⟨cs',t0,eX,c0,q1,q2⟩
   ·rintro⟨cs',t0,eX,c0,q1,q2⟩;have UR:=bQ _ _ _ _ _ q1;exact⟨cs',t0,eX,c0,by rw[CP c hc];exact q1,by rw[CP f UR];exact q2⟩
  have US:h.dr b=none:=by
   cases hf:h.dr b with
   |none=>rfl
   |some r=>obtain⟨cs',t,th,q⟩:=dP hf;rw[hg]at q;cases q
  have WN:(h.put b (.cells (l.map (.int .i64)) b h.size 0)).dr b=some (b,h.size,0):=bM o8 o8;have uc:∀c,c≠b→(h.put b (.cells (l.map (.int .i64)) b h.size 0)).cellsOf c=h.cellsOf c:=fun c hc=>by unfold ab.cellsOf;rw[CP c hc]
  have fP:∀c,c≠b→(h.put b (.cells (l.map (.int .i64)) b h.size 0)).rd c=h.rd c:=fun c hc=>by unfold ab.rd;rw[jf c hc,uc c hc]
  have hlen:∀c,c≠b→lenOf (h.put b (.cells (l.map (.int .i64)) b h.size 0)) c=lenOf h c:=fun c hc=>by unfold lenOf;rw[uc c hc]
  refine⟨H.gh,fun c hc=>by rw[CP c (by simp only[ab.size_put]at hc;omega)];exact H.high c hc,fun c mc hc=>?_,H.own,fun b1 b2 m1 m2 h1 h2 hr bc Dn=>?_,fun c mc r hc hr=>?_,H.dc,H.low,H.l5,fun c cs' f t th sy=>?_,fun c mc cs' th hc sy=>?_⟩
  ·by_cases ec:c=b
   ·subst ec;rw[hb]at hc;cases hc;refine⟨_,_,o8,k2,.cells Re (by simpa using hl) (fun h9=>?_) fun _ i v hv=>?_⟩
    ·have:=adX c YO;omega
    ·rw[List.getElem?_map,Option.map_eq_some_iff]at hv;obtain⟨x,hx,rfl⟩:=hv;exact⟨_,hc i x hx,.int μ _ _⟩
   ·obtain⟨q,q',j1,j2,j3⟩:=H.obj c mc hc;exact⟨q,q',by rw[CP c ec];exact j1,j2,j3.mono μ.le_refl (by rw[fP c ec];exact id)⟩
  ·obtain⟨r,q1,q2,q3⟩:=H.alias b1 b2 m1 m2 h1 h2 hr bc Dn;have e1:b1≠b:=fun e=>by subst e;rw[US]at q1;cases q1
   have e2:b2≠b:=fun e=>by subst e;rw[US]at q2;cases q2
   exact⟨r,by rw[jf b1 e1];exact q1,by rw[jf b2 e2];exact q2,by rw[hlen b1 e1,hlen b2 e2];exact q3⟩
  ·by_cases ec:c=b
   ·subst ec;rw[WN]at hr;cases hr;exact⟨Nat.le_of_lt YO,Nat.le_refl _,m,hb⟩
   ·rw[jf c ec]at hr;exact H.dr c mc r hc hr
  ·by_cases ec:c=b
   ·subst ec;rw[o8]at sy;cases sy;exact Nat.le_refl _
   ·rw[CP c ec]at sy;exact H.wf _ _ _ _ _ sy
  ·by_cases ec:c=b
   ·subst ec;rw[o8]at sy;simp only[Option.some.injEq,fi.cells.injEq]at sy;omega
   ·rw[CP c ec]at sy;exact H.root _ _ _ _ hc sy
theorem Lb {μ:bn} {h:ab} {args args':List Value} (hr:ay μ args args') {b:Nat} {cs:List Int} (hb:sY h args=some (b,cs)):∃m,μ b=some m:=by
 induction hr with
 |nil=>simp[sY]at hb
 |cons hv _ ih=>
  unfold sY at hb;split at hb
  ·cases hb
  ·rename_i b0 o z len cap l' heq;simp only[List.cons.injEq]at heq;obtain⟨rfl,rfl⟩:=heq;split at hb
   ·rename_i cs' hz hg;simp only[Option.some.injEq,Prod.mk.injEq]at hb;obtain⟨rfl,rfl⟩:=hb;cases hv with
    |lit hh=>simp[aC]at hh
    |slice h1=>exact⟨_,h1⟩
    |cP h1=>exact h1 (by rintro rfl;simp at hz)
   ·exact ih hb
  ·rename_i v' l' _ heq;simp only[List.cons.injEq]at heq;obtain⟨_,rfl⟩:=heq;exact ih hb
theorem Lc (hE0:bu P E0) (hO:∀base B,iJ P E0 base B) (hm:P.follows .mixedOrders=true) (hg:∀g,E0.dc g=true→E.dc g=true) (k:Nat):j8 P E base B (CO E0 k):=by
 intro μ h w g args args' v h' hc hr H F n hF;unfold CO at hc;simp only[Option.bind_eq_some_iff,ai,Bool.and_eq_true,aS]at hc;obtain⟨⟨b,cs⟩,aaE,⟨bH,Rj⟩,out,aaF,oc⟩:=hc;obtain⟨m,hb⟩:=Lb hr aaE;have dK:=La aaE;have H2:=H.CM hg;obtain⟨l,hl,H3⟩:=H2.aaD (fun _ h=>h) hb dK Rj;have gD:=AN aaF _ (List.mem_map_of_mem (AQ hl));refine(sX hE0 (hO _ _) hm k μ _ w g args args' _ out gD hr H3 F n hF).mono ?_;rintro e w' ⟨u,u',h1,fQ,hK,rfl,hv,S⟩;exact rS (hX:=h.put b (.cells (l.map (.int .i64)) b h.size 0)) H rfl oc hK hv S
end
noncomputable def adY (P:Program) (fs bs ps:List Nat) (n:Nat):FuncId→List Value→ab→Option (Value×ab):=fun g args h=>
 match fs.contains g with
 |true=>EP (ij P jJ) n g args h
 |false=>match bs.contains g with
  |true=>CN (ij P jJ) n g args h
  |false=>match ps.contains g with
   |true=>CO (ij P jJ) n g args h
   |false=>none
end Go.M
