/-
  Part 24 of the library that the proof leans on.
-/
import Derived.Test.YteoljjhhdgplnaaGreatDoorL12
namespace Go.M
open Go
section
variable {T E:Env} {X:Cx} {ρ ρ':Gh} {F F':Nat→Prop} {o o':Ob} {c c' n:Nat} {f:Fr} {af:AF} {h h':ah}
theorem VC.abc (L:cm T E) {g:FuncId} {fn:Func} {code:Code} {c0:Nat} {args:List TV} {o0:Ob} {R:TV→Ob→Nat→Prop} (hf:E.func g=some fn)
 (ho:∀b a,E.v9 b g a=fun _=>none) (hb:fn.body=some code) (hlen:Nat.ble args.length fn.ntmps=true)
 (hw:∀(X:Cx) (ρ:Gh) (F:Nat→Prop) (h:ah) (af:AF),X.c0=c0→wG E X→Mem X ρ F o0 c0 h→bH c0 ρ F h (tj 0 args) af→af.n=fn.ntmps→Comes E X fn.ntmps code af h (He T c0 fn.results.toList R)):VC E g c0 args o0 R:=by
 intro base ρ F h S0 dW HN H HO Df;obtain⟨S,hn⟩:=qO Df (aL.1 hlen);obtain⟨ex,mu,h',f',o',c',ρ',F',⟨n0,hr⟩,hq,M',S',U8⟩:=hw (uq base ρ F o0 c0 h S0) ρ F h _ rfl HN H S hn;unfold He at hq
 have fin:∀{vs:List TV} {sh:List Nat} {ids:List (Option Nat)} {U:List Nat} {r:TV} {o1:Ob},(ex= .normal∨ex= .ret)→EY T f' o' fn.results.toList=some vs→(iO c' ids&&pQ c0 0 ids&&lO ids U)=true→leV ids (ck sh o') (VP vs) r→Kd ids (ck sh o') U o1→R r o1 ids.length→
  ∃n v h2 ρ' F' r o' c',fW E base n g dW h=some (v,h2)∧R r o' c'∧Mem (uq base ρ F o0 c0 h S0) ρ' F' o' c' h2∧VR c' ρ' F' h2 r v:=by
  intro vs sh ids U r o1 hex JE hi hle hO hR;simp only[Bool.and_eq_true]at hi;obtain⟨xs,k1,k2⟩:=vF L M' S' JE;obtain⟨F1,S1⟩:=iQ M' sh;have M2:=S1.mem.le hi.1.1 hi.1.2 hi.2 hO;refine⟨n0,ct xs,h',_,F1,r,o1,ids.length,?_,hR,M2,pg S1.mem _ _ _ hle (S1.bx _ _ (MJ k2))⟩;unfold fW eE;rw[hf];simp only[Option.bind_some,congrFun (ho _ _) _,hb,←Df.1,hlen,bL];have oO:aN E base n0 code (AF.enter dW fn.ntmps) h=some (ex,mu,h'):=hr n0 (Nat.le_refl _);rw[oO];rcases hex with rfl |rfl<;>simp[k1]
 cases ex with
 |exit id=>exact hq.elim
 |normal=>
  simp only at hq;split at hq
  ·rename_i vs JE;obtain⟨sh,ids,U,r,o1,⟨hle,hO,hi⟩,hR⟩:=hq;exact fin (.inl rfl) JE hi hle hO hR
  ·exact hq.elim
 |ret=>
  simp only at hq;split at hq
  ·rename_i vs JE;obtain⟨sh,ids,U,r,o1,⟨hle,hO,hi⟩,hR⟩:=hq;exact fin (.inr rfl) JE hi hle hO hR
  ·exact hq.elim
theorem Mem.fresh (H:Mem X ρ F o c h) {S:Nat→Ft} (K:MO X ρ F o c h S):Mem (uq X.base ρ F o c h S) ρ F o c h∧MO (uq X.base ρ F o c h S) ρ F o c h S:=by
 have M:MO (uq X.base ρ F o c h S) ρ F o c h S:=⟨K.cC,K.B7,K.ff,fun n y x hl hx=>⟨(K.eG n y x hl hx).1,(K.eG n y x hl hx).2.1,.inl ⟨n,y,hl,hx⟩⟩,K.apart⟩;exact⟨⟨⟨S,M⟩,H.names,H.frozen,fun _ hb=>hb,H.wf,.refl _ _ _,H.mF,fun _ hb=>.inl hb,Nat.le_refl _,fun _ _ _ hl=>hl,fun _ _ _ hb=>hb⟩,M⟩
theorem Mem.Xp (H:Mem X ρ F o c h) {S:Nat→Ft} (N:wG E X):wG E (uq X.base ρ F o c h S):=N.now H
structure Xq (X:Cx) (ρ:Gh) (F:Nat→Prop) (o:Ob) (c:Nat) (h:ah) (S:Nat→Ft) (ρ':Gh) (F':Nat→Prop) (o':Ob) (c':Nat) (h':ah) (S':Nat→Ft):Prop where
 mem:Mem X ρ' F' o' c' h'
 mo:MO X ρ' F' o' c' h' S'
 bx:∀t v,VR c ρ F h t v→VR c' ρ' F' h' t v
 le:h.size≤h'.size
 old:∀m y x,look o' m=some y→x∈cM (S' m)→iJ S o x∨h.size≤x
 same:∀b,b<h.size→¬iJ S o (hd h b)→h'.get b=h.get b
theorem Mem.PF (H:Mem X ρ F o c h) {S:Nat→Ft} (K:MO X ρ F o c h S) (M:Mem (uq X.base ρ F o c h S) ρ' F' o' c' h'):∃S',Xq X ρ F o c h S ρ' F' o' c' h' S':=by
 obtain⟨S',KO⟩:=M.ex;have hMX:∀x,iJ S o x→X.M x∨X.h0.size≤x:=fun x ⟨u,y,h2,h3⟩=>(K.eG u y x h2 h3).2.2;have qy:∀b,F b→F' b:=M.F0;have c7:∀b cs,F b→h.rd b=some cs→h'.rd b=some cs:=fun b cs hb hr=>by rw[M.jb.c7 b hb];exact hr
 have fq:h.size≤h'.size:=M.jb.size;have mL:c≤c':=M.vo.1;have hA:∀n l,n<c→ρ' n=some l→ρ n=some l:=fun n l hn hl=>M.vo.2.1 n l hn hl;have hB:∀n b,ρ n=some (.dJ b)→ρ' n=some (.dJ b):=fun n b hb=>M.vo.2.2 n b (H.names _ _ hb) hb;have MK:MO X ρ' F' o' c' h' S':=⟨KO.cC,KO.B7,KO.ff,fun n y x hl hx=>by
  obtain⟨q1,q2,q3⟩:=KO.eG n y x hl hx;refine⟨q1,q2,?_⟩;rcases q3 with q3|q3
  ·exact hMX x q3
  ·exact .inr (Nat.le_trans H.jb.size q3),KO.apart⟩
 refine⟨S',⟨⟨⟨S',MK⟩,M.names,M.frozen,fun b hb=>qy b (H.F0 b hb),M.wf,⟨Nat.le_trans H.jb.size fq,fun b hb hMb=>?_,fun b hb=>(M.jb.c7 b (H.F0 b hb)).trans (H.jb.c7 b hb),fun b hb=>(M.jb.cM b (Nat.lt_of_lt_of_le hb H.jb.size)).trans (H.jb.cM b hb)⟩,Nat.le_trans H.mF fq,fun b hb=>?_,Nat.le_trans H.vo.1 mL,fun k l hk hl=>H.vo.2.1 k l hk (hA k l (Nat.lt_of_lt_of_le hk H.vo.1) hl),fun k b hk hb=>hB k b (H.vo.2.2 k b hk hb)⟩,
  MK,fun t v=>VR.mono mL hA hB qy c7,fq,fun m y x hl hx=>(KO.eG m y x hl hx).2.2,fun b hb hx=>M.jb.bx b hb hx⟩⟩
 ·have h2:=H.jb.cM b hb;have e:h'.get b=h.get b:=M.jb.bx b (Nat.lt_of_lt_of_le hb H.jb.size) fun hx=>by
   have hx:iJ S o (hd h b):=hx;rw[h2]at hx;rcases hMX _ hx with k|k
   ·exact hMb k
   ·have:=H.wf.Hg b;rw[h2]at this;omega
  rw[e];exact H.jb.bx b hb hMb
 ·rcases M.yR b hb with h3|h3|h3
  ·have B8:F b:=h3;rw[M.jb.cM b (H.CY B8)];exact H.yR b B8
  ·exact .inr (hMX _ h3)
  ·exact .inr (.inr (Nat.le_trans H.jb.size h3))
theorem Mem.beside (H:Mem X ρ F o c h) {S:Nat→Ft} (K:MO X ρ F o c h S) (fq:h.size≤h'.size) (wf:Wf h') {L:Nat} (hL:X.h0.size≤L) (TW:∀m y,look o m=some y→L∉cM (S m)) (hLn:hd h L=L) (ajC:hd h' L=L)
 (same:∀b,b<h.size→b≠L→h'.get b=h.get b) (rd:∀b,b<h.size→h'.rd b=h.rd b):Mem X ρ F o c h'∧MO X ρ F o c h' S∧∀t v,VR c ρ F h t v→VR c ρ F h' t v:=by
 have VQ:∀b,b<h.size→hd h' b=hd h b:=fun b hb=>by
  by_cases e:b=L
  ·subst e;rw[hLn,ajC]
  ·unfold hd;rw[same b hb e]
 have c7:∀b cs,F b→h.rd b=some cs→h'.rd b=some cs:=fun b cs hb hr=>by rw[rd b (H.CY hb)];exact hr
 have hm:∀t v,VR c ρ F h t v→VR c ρ F h' t v:=fun t v=>VR.mono (Nat.le_refl _) (fun _ _ _ hl=>hl) (fun _ _ hb=>hb) (fun _ hb=>hb) c7;have sm:∀b,b<h.size→¬(fun x=>x=L) (hd h b)→h'.get b=h.get b:=fun b hb hx=>same b hb fun e=>hx (by subst e;exact hLn);have MK:MO X ρ F o c h' S:=⟨fun m y hl=>(K.cC m y hl).bx (T:=fun x=>x=L) H.wf sm (fun x hx e=>TW m y hl (e▸hx)) (fun _ hb=>hb) c7 hm rfl,K.B7,K.ff,fun m y x hl hx=>by
  obtain⟨q1,q2,q3⟩:=K.eG m y x hl hx;exact⟨q1,Nat.lt_of_lt_of_le q2 fq,q3⟩,fun m y x b hl hs hb=>by rw[VQ b (H.CY hb)];exact K.apart m y x b hl hs hb⟩
 refine⟨⟨⟨S,MK⟩,H.names,fun b hb=>by rw[rd b (H.CY hb)];exact H.frozen b hb,H.F0,wf,⟨Nat.le_trans H.jb.size fq,fun b hb hM=>?_,fun b hb=>?_,fun b hb=>?_⟩,Nat.le_trans H.mF fq,fun b hb=>?_,H.vo⟩,MK,hm⟩
 ·rw[same b (Nat.lt_of_lt_of_le hb H.jb.size) om];exact H.jb.bx b hb hM
 ·rw[rd b (H.CY (H.F0 b hb))];exact H.jb.c7 b hb
 ·rw[VQ b (Nat.lt_of_lt_of_le hb H.jb.size)];exact H.jb.cM b hb
 ·rw[VQ b (H.CY hb)];exact H.yR b hb
theorem vW {L:Nat} {ob:eC} (hg:h.get L=some ob) (hn:bJ ob=true):hd h L=L:=ew hg fun _ _ _ _ e=>by subst e;cases hn
theorem abd (W:Wf h) {L:Nat} {o1 ob:eC} (hg:h.get L=some o1) (hn:bJ ob=true):Wf (h.put L ob):=by
 have bw:=W.lt hg;refine⟨fun b hb=>?_,fun b cs f dj aS hg=>?_⟩
 ·rw[ah.size_put]at hb;rw[ah.br,if_neg om];exact W.high b hb
 ·rw[ah.br]at hg;by_cases e:b=L
  ·rw[if_pos e]at hg;cases hg;cases hn
  ·rw[if_neg e]at hg;exact W.le _ _ _ _ _ hg
theorem Mem.afL (H:Mem X ρ F o c h) {S:Nat→Ft} (K:MO X ρ F o c h S) {ob:eC} (hn:bJ ob=true):Mem X ρ F o c (h.push ob)∧MO X ρ F o c (h.push ob) S∧∀t v,VR c ρ F h t v→VR c ρ F (h.push ob) t v:=by
 have g0:h.get h.size=none:=H.wf.high _ (Nat.le_refl _);refine H.beside K (L:=h.size) (by rw[ah.size_push];omega) (H.wf.push fun _ _ _ _ e=>by subst e;cases hn) H.jb.size (fun m y hl hx=>?_) (by unfold hd;rw[g0]) (vW (by rw[ah.al,if_pos rfl]) hn) (fun b hb _=>by rw[ah.al,if_neg om]) fun b hb=>eI H.wf.le ob hb;have:=(K.eG m y _ hl hx).2.1;omega
theorem Mem.Iw (H:Mem X ρ F o c h) {S:Nat→Ft} (K:MO X ρ F o c h S) {L:Nat} {o1 ob:eC} (hg:h.get L=some o1) (n1:bJ o1=true) (hn:bJ ob=true) (hL:X.h0.size≤L) (TW:∀m y,look o m=some y→L∉cM (S m)):
 Mem X ρ F o c (h.put L ob)∧MO X ρ F o c (h.put L ob) S∧∀t v,VR c ρ F h t v→VR c ρ F (h.put L ob) t v:=
 H.beside K (L:=L) (Nat.le_refl _) (abd H.wf hg hn) hL TW (vW hg n1) (vW (by rw[ah.br,if_pos rfl]) hn) (fun b _ e=>by rw[ah.br,if_neg e]) fun b _=>QD hg n1 hn b
theorem Xq.still {S S':Nat→Ft} (W:Xq X ρ F o c h S ρ' F' o' c' h' S') {L:Nat} {ob:eC} (hg:h.get L=some ob) (hn:bJ ob=true) (bw:L<h.size) (TW:∀m y,look o m=some y→L∉cM (S m)):
 h'.get L=some ob∧∀m y,look o' m=some y→L∉cM (S' m):=by
 have uc:¬iJ S o L:=fun⟨m,y,hl,hx⟩=>TW m y hl hx;refine⟨(W.same L bw (by rw[vW hg hn];exact uc)).trans hg,fun m y hl hx=>?_⟩;rcases W.old m y L hl hx with k|k
 ·exact uc k
 ·omega
theorem Comes.PF (H:Mem X ρ F o c h) {S:Nat→Ft} (K:MO X ρ F o c h S) {code:Code} {Q:CK} (C:Comes E (uq X.base ρ F o c h S) n code af h Q):
 ∃ex mu h' f' o' c' ρ' F' S',gU E X.base code af h (ex,mu,h')∧Q ex f' o' c'∧Xq X ρ F o c h S ρ' F' o' c' h' S'∧bH c' ρ' F' h' f' mu∧mu.n=n:=by
 obtain⟨ex,mu,h',f',o',c',ρ',F',r,q,M,s,e⟩:=C;obtain⟨S',W⟩:=H.PF K M;exact⟨ex,mu,h',f',o',c',ρ',F',S',r,q,W,s,e⟩
theorem TX (L0:cm T E) (N:wG E X) (H:Mem X ρ F o c h) {S:Nat→Ft} (K:MO X ρ F o c h S) {L:Nat} {f0:AF} {ps:List Tmp} {gS body:Code} {args:List Value} {fA fB:Fr} {c9:List Nat} {R:Ob→Nat→Prop}
 (hg:h.get L=some (.loop .ready none f0 ps gS body)) (hb:X.base≤L) (hL:X.h0.size≤L) (TW:∀m y,look o m=some y→L∉cM (S m)) (hlen:ps.length=args.length) (NW:(aZ gS&&aZ body)=true)
 (hS:bH c ρ F h fA (AF.jc (ps.zip args) f0)) (hn:(AF.jc (ps.zip args) f0).n=n)
 (ha:wp T (VC E) n c c9 gS fA o c (fun ex f' o' c'=>ex= .normal∧f'=fB∧o'=o∧c'=c)) (hw:wp T (VC E) n c c9 body fB o c (fun ex _ o' c'=>ex= .normal∧R o' c')):
 ∃ρ' F' o' c' h' S',(∃n0,∀m,n0≤m→dK X.base (aN E X.base m) L args h=some (.bool true,h'))∧R o' c'∧Mem X ρ' F' o' c' h'∧MO X ρ' F' o' c' h' S'∧(∀m y,look o' m=some y→L∉cM (S' m))∧
  h'.get L=some (.loop .ready none f0 ps gS body)∧h.size≤h'.size∧∀t v,VR c ρ F h t v→VR c' ρ' F' h' t v:=by
 have bw:=H.wf.lt hg;obtain⟨H1,K1⟩:=H.fresh K;obtain⟨ex1,nK,h1,f1,o1,c1,iE,F1,S1,⟨n1,r1⟩,⟨rfl,rfl,rfl,rfl⟩,W1,s1,e1⟩:=(Ig (X:=uq X.base ρ F o c h S) (c9:=c9) L0 (H.Xp N) gS ha H1 hS hn).PF H K;obtain⟨g1,l1⟩:=W1.still hg rfl bw TW;obtain⟨H2,K2,m2⟩:=W1.mem.Iw W1.mo (ob:=.loop .busy none f0 ps gS body) g1 rfl rfl hL l1;obtain⟨H3,K3⟩:=H2.fresh K2;have nF:L<(h1.put L (.loop .busy none f0 ps gS body)).size:=Nat.lt_of_lt_of_le bw W1.le
 obtain⟨YR,Dd,h2,f2,o2,c2,MI,F2,S2,⟨n2,r2⟩,⟨rfl,hR⟩,W2,s2,e2⟩:=(Ig (X:=uq X.base iE F1 o1 c1 (h1.put L (.loop .busy none f0 ps gS body)) S1) (c9:=c9) L0 (H2.Xp N) body hw H3 (fun t=>m2 _ _ (s1 t)) e1).PF H2 K2;obtain⟨g2,l2⟩:=W2.still (L:=L) (ob:=.loop .busy none f0 ps gS body) (by rw[ah.br,if_pos rfl]) rfl nF l1;obtain⟨H4,K4,m4⟩:=W2.mem.Iw W2.mo (ob:=.loop .ready none f0 ps gS body) g2 rfl rfl hL l2
 refine⟨MI,F2,o2,c2,h2.put L (.loop .ready none f0 ps gS body),S2,⟨max n1 n2,fun m hm=>?_⟩,hR,H4,K4,l2,by rw[ah.br,if_pos rfl],Nat.le_trans W1.le W2.le,fun t v hv=>m4 _ _ (W2.bx _ _ (m2 _ _ (W1.bx _ _ hv)))⟩;have q1:=r1 m om;have q2:=r2 m om;rw[Bool.and_eq_true]at NW;unfold dK;rw[aL.2 hb,hg];simp only[bL,beq_iff.2 hlen,NW.1,NW.2,Bool.and_self,q1,g1];rw[q2];simp only[Option.bind_some,g2]
theorem gU.Lx {id base:Nat} {b:Code} {af nK:AF} {h h1:ah} {ex:Ex} (A:gU E base b af h (ex,nK,h1)) (hx:ex= .normal∨ex= .exit id):gU E base (.block id b) af h (.normal,nK,h1):=by
 obtain⟨n1,A⟩:=A;refine⟨n1+1,fun m hm=>?_⟩;obtain⟨k,rfl⟩:∃k,m=k+1:=⟨m - 1,om⟩;simp only[aN];rw[A k om];rcases hx with rfl |rfl
 ·rfl
 ·simp only[beq_iff.2 (rfl:id=id),cond_true]
theorem rF {base:Nat} {cf:fk} {rf:eD} {ops:List Oper}:∀(a b:List Oper) (f:AF) (h:ah),kN E base cf rf ops (a++b) f h=(kN E base cf rf ops a f h).bind fun q=>kN E base cf rf ops b q.1 q.2
 |[],_,_,_=>rfl
 |o::a,b,f,h=>by
  simp only[List.cons_append,kN];split
  ·cases eM E base cf rf o f h with
   |none=>rfl
   |some r=>exact rF a b _ _
  ·exact rF a b _ _
theorem xm (L0:cm T E) (N:wG E X) (H:Mem X ρ F o c h) {S:Nat→Ft} (K:MO X ρ F o c h S) {L:Nat} {ob:eC} (hg:h.get L=some ob) (ho:bJ ob=true) (TW:∀m y,look o m=some y→L∉cM (S m)) {code:Code} {Q:CK}
 (hw:ux T (VC E) n c [] code f o c Q) (hS:bH c ρ F h f af) (hn:af.n=n):
 ∃ex mu h' f' o' c' ρ' F' S',gU E X.base code af h (ex,mu,h')∧Q ex f' o' c'∧Mem X ρ' F' o' c' h'∧MO X ρ' F' o' c' h' S'∧h'.get L=some ob∧(∀m y,look o' m=some y→L∉cM (S' m))∧(∀t v,VR c ρ F h t v→VR c' ρ' F' h' t v)∧bH c' ρ' F' h' f' mu∧mu.n=n:=by
 obtain⟨ex,mu,h',f',o',c',ρ',F',S',r,q,W,s,e⟩:=(Ig (X:=uq X.base ρ F o c h S) (c9:=[]) L0 (H.Xp N) code (by rw[←Ba];exact hw) (H.fresh K).1 hS hn).PF H K;obtain⟨g,l⟩:=W.still hg ho (H.wf.lt hg) TW;exact⟨ex,mu,h',f',o',c',ρ',F',S',r,q,W.mem,W.mo,g,l,W.bx,s,e⟩
theorem Nq (L0:cm T E) (N:wG E X) (H:Mem X ρ F o c h) {S:Nat→Ft} (K:MO X ρ F o c h S) {L:Nat} {ob:eC} (hg:h.get L=some ob) (ho:bJ ob=true) (TW:∀m y,look o m=some y→L∉cM (S m)) {ops rest:List Oper} {Q:RK}
 (hw:An T (VC E) n ops rest f o c Q) (hS:bH c ρ F h f af) (hn:af.n=n):
 ∃mu h' f' o' c' ρ' F' S',(∃n0,∀m,n0≤m→kN E X.base (eE E X.base (aN E X.base m)) (dK X.base (aN E X.base m)) ops rest af h=some (mu,h'))∧Q f' o' c'∧Mem X ρ' F' o' c' h'∧MO X ρ' F' o' c' h' S'∧h'.get L=some ob∧(∀m y,look o' m=some y→L∉cM (S' m))∧(∀t v,VR c ρ F h t v→VR c' ρ' F' h' t v)∧bH c' ρ' F' h' f' mu∧mu.n=n:=by
 obtain⟨n0,mu,h',f',o',c',ρ',F',r,q,M,s,e⟩:=zm (X:=uq X.base ρ F o c h S) L0 (H.Xp N) rest hw (H.fresh K).1 hS hn;obtain⟨S',W⟩:=H.PF K M.mem;obtain⟨g,l⟩:=W.still hg ho (H.wf.lt hg) TW;exact⟨mu,h',f',o',c',ρ',F',S',⟨n0,r⟩,q,W.mem,W.mo,g,l,W.bx,s,e⟩
def tC (t:Nat):Code→Bool
 | .region _ ops _=>ops.toList.all fun o=>o.dst != some t
 | .seq a b=>tC t a&&tC t b
 | .cond _ a b=>tC t a&&tC t b
 | .block _ b=>tC t b
 | .loop b=>tC t b
 | .rangeFunc .. =>false
 |_=>true
theorem sL {base t:Nat} {cf:fk} {rf:eD} {ops:List Oper}:∀(l:List Oper) {f f':AF} {h h':ah},(l.all fun o=>o.dst != some t)=true→kN E base cf rf ops l f h=some (f',h')→f'.get t=f.get t
 |[],f,f',h,h',_,e=>by cases e;rfl
 |o::l,f,f',h,h',hl,e=>by
  rw[List.all_cons,Bool.and_eq_true]at hl;have bC:∀v,(f.put o.dst v).get t=f.get t:=fun v=>by
   rw[AF.br,if_neg (fun q=>by simp[q.1]at hl)]
  simp only[kN]at e;split at e
  ·simp only[Option.bind_eq_some_iff]at e;obtain⟨r,_,e⟩:=e;exact(sL l hl.2 e).trans (bC _)
  ·exact(sL l hl.2 e).trans (bC _)
theorem uG {base t:Nat} {cf:fk} {rf:eD} {ops:List Oper}:∀(l:List Oper) {f f':AF} {h h':ah} {es:List eK},(l.all fun o=>o.dst != some t)=true→kE E base cf rf ops l f h=some (f',h',es)→f'.get t=f.get t
 |[],f,f',h,h',es,_,e=>by cases e;rfl
 |o::l,f,f',h,h',es,hl,e=>by
  rw[List.all_cons,Bool.and_eq_true]at hl;have bC:∀v,(f.put o.dst v).get t=f.get t:=fun v=>by
   rw[AF.br,if_neg (fun q=>by simp[q.1]at hl)]
  simp only[kE]at e;split at e
  ·simp only[Option.bind_eq_some_iff,Option.some.injEq,Prod.mk.injEq]at e;obtain⟨r,_,⟨f2,h2,es2⟩,e,rfl,rfl,rfl⟩:=e;exact(uG l hl.2 e).trans (bC _)
  ·simp only[Option.bind_eq_some_iff,Option.some.injEq,Prod.mk.injEq]at e;obtain⟨⟨f2,h2,es2⟩,e,rfl,rfl,rfl⟩:=e;exact(uG l hl.2 e).trans (bC _)
theorem eH {base t:Nat}:∀(n:Nat) (code:Code) {f f':AF} {h h':ah} {ex:Ex},tC t code=true→aN E base n code f h=some (ex,f',h')→f'.get t=f.get t
 |0,_,_,_,_,_,_,_,e=>by cases e
 |n+1,code,f,f',h,h',ex,hd,e=>by
  cases code with
  |region id ops draw=>
   simp only[aN,kO]at e;cases draw with
   |false=>
    simp only[Option.bind_eq_some_iff,Option.some.injEq,Prod.mk.injEq]at e;obtain⟨q,e,rfl,rfl,rfl⟩:=e;exact sL _ hd e
   |true=>
    simp only[aj,Option.bind_eq_some_iff,Option.some.injEq,Prod.mk.injEq]at e;obtain⟨_,⟨f2,h2,es2⟩,e,_,rfl,rfl,rfl⟩:=e;exact uG _ hd e
  |seq a b=>
   simp only[tC,Bool.and_eq_true]at hd;simp only[aN]at e;split at e
   ·rename_i f1 h1 e1;exact(eH n b hd.2 e).trans (eH n a hd.1 e1)
   ·exact eH n a hd.1 e
  |cond q a b=>
   simp only[tC,Bool.and_eq_true]at hd;simp only[aN,Option.bind_eq_some_iff]at e;obtain⟨v,_,w,_,e⟩:=e;cases w with
   |true=>exact eH n a hd.1 e
   |false=>exact eH n b hd.2 e
  |block id b=>
   simp only[aN]at e;split at e
   ·rename_i nU f1 h1 e1;have:=eH n b hd e1;cases hb:Nat.beq nU id<;>rw[hb]at e<;>cases e<;>exact this
   ·exact eH n b hd e
  |loop b=>
   simp only[aN]at e;split at e
   ·rename_i f1 h1 e1;exact(eH n (.loop b) hd e).trans (eH n b hd e1)
   ·exact eH n b hd e
  |rangeFunc _ _ _ _=>cases hd
  |skip=>cases e;rfl
  |exit _=>cases e;rfl
  |ret=>cases e;rfl
  |_=>cases e
theorem gU.bx {base t:Nat} {code:Code} {f f':AF} {h h':ah} {ex:Ex} (R:gU E base code f h (ex,f',h')) (hd:tC t code=true):f'.get t=f.get t:=by
 obtain⟨n,R⟩:=R;exact eH n code hd (R n (Nat.le_refl _))
theorem xn {t:Nat} {v:TV} {x:Value} (S:bH c ρ F h f af) (hv:VR c ρ F h v x) (hn:t<af.n):bH c ρ F h ((t,v)::f) (af.put (some t) x):=fun k=>by
 rw[oy,AF.br];by_cases e:t=k
 ·subst e;rw[if_pos rfl,if_pos ⟨rfl,hn⟩];exact hv
 ·rw[if_neg e,if_neg (fun q=>e (Option.some.inj q.1))];exact S k
theorem uH (S:bH c ρ F h f af) (m:∀t v,VR c ρ F h t v→VR c' ρ' F' h' t v):bH c' ρ' F' h' f af:=fun k=>m _ _ (S k)
end
end Go.M
