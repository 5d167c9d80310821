/-
  Part 7 of the library that the proof leans on.
-/
import Derived.Test.YtgjfaieghmigjaaGreatDoorL6
namespace Go.M
open Go
def PRes (c:Nat) (ρ:Gh) (F:Nat→Prop) (h:AHeap) (o:Ob) (canon:Option Value) (K:OK):Prop:=∃v x,canon=some x∧VR c ρ F h v x∧K v o c .pure
section
variable {T E:Env} {X:Cx} {ρ:Gh} {F:Nat→Prop} {o:Ob} {c:Nat} {af:AF} {f:Fr} {h:AHeap} {p:Oper} {K:OK}
theorem abin_other {op:BinOp} {t:TypeId} {x y:Operand} {a b:Value} {r:Bool} (hi:∀k n k' m,¬(a= .int k n∧b= .int k' m)) (hs:∀s r,¬(a= .string s∧b= .string r)) (he:eqCond E t x y a b=true) (hq:aeq E 100 t a b=some r):
 (op= .eql→abin E op t x y a b=some (.bool r))∧(op= .neq→abin E op t x y a b=some (.bool !r)):=by
 constructor
 ·rintro rfl
  unfold abin
  split
  ·exact absurd ⟨rfl,rfl⟩ (hi _ _ _ _)
  ·exact absurd ⟨rfl,rfl⟩ (hs _ _)
  ·simp[grd,he,hq]
 ·rintro rfl
  unfold abin
  split
  ·exact absurd ⟨rfl,rfl⟩ (hi _ _ _ _)
  ·exact absurd ⟨rfl,rfl⟩ (hs _ _)
  ·simp[grd,he,hq]
theorem pure1_ok {v:Option Value} (hp:pure1 v o c K) {canon:Option Value} (hc:∀x,v=some x→canon=some x):PRes c ρ F h o canon K:=by
 unfold pure1 at hp
 split at hp
 ·rename_i x
  split at hp
  ·rename_i h2;exact⟨_,_,hc x rfl,.s h2,hp⟩
  ·exact hp.elim
 ·exact hp.elim
theorem NilV.not_chan {d:Nat} {b:Bool} {n:Nat} (hv:NilV d b (.chan (some n))):False:=by
 unfold NilV at hv
 split at hv<;>simp at hv
theorem NilV.not_int {d:Nat} {b:Bool} {x:Value} (hv:NilV d b x):(∀k n,x≠ .int k n)∧(∀s,x≠ .string s)∧(∀a,x≠ .agg a)∧(x= .nilIface→d=3∧b=true):=by
 unfold NilV at hv
 split at hv
 all_goals
  (try obtain⟨_,rfl⟩:=hv)
  (try obtain⟨_,_,rfl⟩:=hv)
  (try obtain⟨_,_,_,rfl⟩:=hv)
  (try subst hv)
  (try(exact hv.elim))
  (try simp)
theorem sameK_any {k k':IntKind} {v w x:Value} (h:sameK k k' v=some x):sameK k k' w=some w:=by
 unfold sameK at h ⊢
 split at h<;>first|rfl |cases h
theorem ask_ok {p:Prop} (hw:ask p o c K) {canon:Option Value} (b:Bool) (hb:b=true↔p) (hc:canon=some (.bool b)):PRes c ρ F h o canon K:=by
 cases b with
 |true=>exact⟨_,_,hc,.s rfl,hw.1 (hb.1 rfl)⟩
 |false=>exact⟨_,_,hc,.s rfl,hw.2 fun hp=>by have:=hb.2 hp;cases this⟩
theorem askK_ok {p:Prop} {k k':IntKind} {op:BinOp} {t:TypeId} {n m:Int} (hw:askK k k' p o c K) (b:Bool) (hb:b=true↔p) (hv:vint op k k' n m=sameK k k' (.bool b)):PRes c ρ F h o (pureV (binOp op t (.int k n) (.int k' m))) K:=by
 unfold askK at hw
 split at hw
 ·rename_i hs
  exact ask_ok hw b hb ((vint_ok (hv.trans (sameK_any hs)) t).1)
 ·exact hw.elim
theorem wbin_ok (L:EnvLe T E) {op:BinOp} {t:TypeId} {x y:Operand} {a b:TV} {xa xb:Value} (hw:wbin T op t x y a b o c K) (ha:VR c ρ F h a xa) (hb:VR c ρ F h b xb):PRes c ρ F h o (abin E op t x y xa xb) K:=by
 unfold wbin at hw
 split at hw
 ·rename_i k n k' m
  rw[ha.inv_s.1,hb.inv_s.1]
  show PRes c ρ F h o (pureV (binOp op t (.int k n) (.int k' m))) K
  split at hw
  ·exact askK_ok hw (n==m) (by simp) rfl
  ·exact askK_ok hw (n != m) (by simp) rfl
  ·exact askK_ok hw (decide (n<m)) (by simp) rfl
  ·exact askK_ok hw (decide (n≤m)) (by simp) rfl
  ·exact askK_ok hw (decide (n>m)) (by simp) rfl
  ·exact askK_ok hw (decide (n≥m)) (by simp) rfl
  ·exact pure1_ok hw fun v hv=>(vint_ok hv t).1
 ·rename_i s r
  rw[ha.inv_s.1,hb.inv_s.1]
  split at hw
  ·exact ask_ok hw (s.data.toList==r.data.toList) (by simp) rfl
  ·exact ask_ok hw (!(s.data.toList==r.data.toList)) (by simp) rfl
  ·exact ask_ok hw (Op.bytesLess s.data.toList r.data.toList) (by simp) rfl
  ·exact⟨_,_,(by simp only[abin];rw[grd_some];exact⟨decide_eq_true (by omega),rfl⟩),.s rfl,hw.2⟩
  ·refine pure1_ok hw fun v hv=>?_
   simp only[abin]at hv
   cases hv
 ·rename_i p q
  rw[ha.inv_s.1,hb.inv_s.1]
  split at hw
  ·rename_i hd
   have hq:aeq E 100 t (.bool p) (.bool q)=some (p==q):=by
    show aeq E (99+1) t _ _=_
    unfold aeq
    rw[L.desc _ _ hd];rfl
   obtain⟨k1,k2⟩:=abin_other (op:=op) (E:=E) (x:=x) (y:=y) (t:=t) (a:=.bool p) (b:=.bool q) (by rintro _ _ _ _ ⟨e,_⟩;cases e) (by rintro _ _ ⟨e,_⟩;cases e) rfl hq
   split at hw
   ·exact⟨_,_,k1 rfl,.s rfl,hw⟩
   ·exact⟨_,_,k2 rfl,.s rfl,hw⟩
   ·exact hw.elim
  ·exact hw.elim
 ·rename_i xs ys
  obtain⟨a',rfl,h1⟩:=ha.inv_agg
  obtain⟨b',rfl,h2⟩:=hb.inv_agg
  split at hw
  ·rename_i z he hz
   split at hw
   case h_2=>exact hw.elim
   rename_i r hr
   obtain⟨s1,s2⟩:=veqK_s hr
   obtain⟨e1,e2⟩:=L.eq t a' b' z xs ys r he hz hr (VRs_s h1 s1) (VRs_s h2 s2)
   obtain⟨k1,k2⟩:=abin_other (op:=op) (E:=E) (x:=x) (y:=y) (t:=t) (a:=.agg a') (b:=.agg b') (by rintro _ _ _ _ ⟨e,_⟩;cases e) (by rintro _ _ ⟨e,_⟩;cases e) e1 e2
   split at hw
   ·exact ask_ok hw r Iff.rfl (k1 rfl)
   ·exact ask_ok hw (!r) (by simp) (k2 rfl)
   ·exact hw.elim
  ·exact hw.elim
 ·split at hw
  ·rename_i es hq
   obtain⟨z,fl,fl',rfl,rfl⟩:∃z fl fl',a= .sl (z+1) es fl∧b= .sl 0 [] fl':=by
    unfold nilQ at hq
    split at hq
    ·cases hq;exact⟨_,_,_,rfl,rfl⟩
    ·cases hq
   have hb':xb= .slice none 0 0:=by
    cases hb with
    |nil=>rfl
    |sl _ _ hz=>omega
   subst hb'
   have main:∀{ds:TypeDesc},E.desc t=some ds→descK ds=some 4→∃r:Bool,(r=true→es=[])∧aeq E 100 t xa (.slice none 0 0)=some r∧∃a l k,xa= .slice a l k:=by
    intro ds h1 h2
    cases ha with
    |nil he=>exact⟨true,fun _=>he,aeq_nil (p:=true) (q:=true) h1 h2 rfl rfl rfl,_,_,_,rfl⟩
    |sl=>exact⟨false,(by simp),aeq_nil (p:=false) (q:=true) h1 h2 ⟨_,_,_,rfl⟩ rfl rfl,_,_,_,rfl⟩
   split at hw
   ·rename_i hd
    simp only[Option.bind_eq_some_iff]at hd
    obtain⟨ds,hd1,hd2⟩:=hd
    obtain⟨r,m1,m2,a0,l0,k0,rfl⟩:=main (L.desc _ _ hd1) hd2
    obtain⟨k1,k2⟩:=abin_other (op:=.eql) (E:=E) (x:=x) (y:=y) (t:=t) (a:=.slice a0 l0 k0) (b:=.slice none 0 0) (by rintro _ _ _ _ ⟨e,_⟩;cases e) (by rintro _ _ ⟨e,_⟩;cases e) rfl m2
    cases r with
    |true=>exact⟨_,_,k1 rfl,.s rfl,hw.1 (m1 rfl)⟩
    |false=>exact⟨_,_,k1 rfl,.s rfl,hw.2⟩
   ·rename_i hd
    simp only[Option.bind_eq_some_iff]at hd
    obtain⟨ds,hd1,hd2⟩:=hd
    obtain⟨r,m1,m2,a0,l0,k0,rfl⟩:=main (L.desc _ _ hd1) hd2
    obtain⟨k1,k2⟩:=abin_other (op:=.neq) (E:=E) (x:=x) (y:=y) (t:=t) (a:=.slice a0 l0 k0) (b:=.slice none 0 0) (by rintro _ _ _ _ ⟨e,_⟩;cases e) (by rintro _ _ ⟨e,_⟩;cases e) rfl m2
    cases r with
    |true=>exact⟨_,_,k2 rfl,.s rfl,hw.1 (m1 rfl)⟩
    |false=>exact⟨_,_,k2 rfl,.s rfl,hw.2⟩
   ·exact hw.elim
  split at hw
  ·rename_i d d1 p d2 q hd hp hq
   split at hw
   ·rename_i hc
    simp only[Bool.and_eq_true,beq_iff,Bool.or_eq_true,Bool.not_eq_true']at hc
    obtain⟨⟨⟨rfl,rfl⟩,hpq⟩,hcc⟩:=hc
    simp only[Option.bind_eq_some_iff]at hd
    obtain⟨ds,hd1,hd2⟩:=hd
    have va:=nilK_rel ha hp
    have vb:=nilK_rel hb hq
    have hae:=aeq_nil (L.desc _ _ hd1) hd2 va vb (by simpa using hpq)
    obtain⟨a1,a2,a3,a4⟩:=va.not_int
    obtain⟨b1,b2,b3,b4⟩:=vb.not_int
    have he:eqCond E t x y xa xb=true:=by
     unfold eqCond
     split
     ·obtain⟨rfl,rfl⟩:=a4 rfl
      obtain⟨_,rfl⟩:=b4 rfl
      rcases hcc with (hcc|hcc)|hcc
      ·simp at hcc
      ·rw[hcc];rfl
      ·rw[hcc];simp
     ·exact absurd rfl (a3 _)
     ·exact va.not_chan.elim
     ·exact vb.not_chan.elim
     ·rfl
    obtain⟨k1,k2⟩:=abin_other (op:=op) (E:=E) (x:=x) (y:=y) (t:=t) (a:=xa) (b:=xb) (by rintro k n _ _ ⟨e,_⟩;exact a1 k n e) (by rintro s _ ⟨e,_⟩;exact a2 s e) he hae
    split at hw
    ·exact⟨_,_,k1 rfl,.s rfl,hw⟩
    ·exact⟨_,_,k2 rfl,.s rfl,hw⟩
    ·exact hw.elim
   ·exact hw.elim
  ·exact hw.elim
theorem wp_ptr (H:Mem X ρ F o c h) {m i q:Nat} {y:TO} (hl:look o m=some y) (hy:arrO y=true) {x:Value} (hx:VR c ρ F h (.wp m i q) x):
 ∃b z l,ρ m=some (.arr b z l)∧x= .pointer (some ⟨b,i*z+q,none⟩):=by
 cases hx with
 |wp hn h1c ha h0=>
  obtain⟨S,hO⟩:=H.objs hl
  cases hO with
  |nil hb hz=>exact absurd hb (h0 _)
  |qnil hb hz=>exact absurd hb (h0 _)
  |arr hb=>exact⟨_,_,_,hb,ha _ _ _ hb⟩
  |arq hb=>exact⟨_,_,_,hb,ha _ _ _ hb⟩
  |_=>simp[arrO]at hy
def lenO:TO→Nat
 | .arr _ _ es=>es.length
 | .arq _ es _=>es.length
 |_=>0
theorem OR.tk {base m:Nat} {S:Ft} {y:TO} (hO:OR c ρ F h base m S y) (hy:arrO y=true) {x:Value} (hx:VR c ρ F h (.tk m) x):
 (lenO y=0∧ρ m=some (.nil (zOf y))∧(x= .slice none 0 0∨∃b o cs,F b∧h.rd b=some cs∧0<zOf y∧o≤cs.length∧x= .slice (some ⟨b,o,some (zOf y)⟩) 0 0))∨
 ∃b cap,ρ m=some (.arr b (zOf y) (lenO y))∧lenO y≤cap∧x= .slice (some ⟨b,0,some (zOf y)⟩) (lenO y) cap:=by
 cases hx with
 |tk hn h1c ha h0=>
  cases hO with
  |nil hb hz=>exact .inl ⟨rfl,hb,h0 _ hb⟩
  |qnil hb hz=>exact .inl ⟨rfl,hb,h0 _ hb⟩
  |arr hb=>obtain⟨cap,h1,h2⟩:=ha _ _ _ hb;exact .inr ⟨_,cap,hb,h1,h2⟩
  |arq hb=>obtain⟨cap,h1,h2⟩:=ha _ _ _ hb;exact .inr ⟨_,cap,hb,h1,h2⟩
  |_=>simp[arrO]at hy
theorem wfieldAddr_ok (L:EnvLe T E) (H:Mem X ρ F o c h) {s:TypeId} {x:TV} {fd:Nat} {xv:Value} (hw:wfieldAddr T s x fd o c K) (hx:VR c ρ F h x xv):
 PRes c ρ F h o ((E.desc s).bind fun d=>(asPtr xv).bind fun p=>(match d with
 | .struct fields=>(fields[fd]?).bind fun fl=>(E.size fl.type).bind fun n=>grd (Nat.blt 0 n) (some (.pointer (some ⟨p.1,p.2+fl.offset,none⟩)))
 |_=>none)) K:=by
 unfold wfieldAddr at hw
 split at hw
 ·rename_i fields hd
  split at hw
  ·rename_i fl hf
   split at hw
   ·rename_i n hn
    split at hw
    ·rename_i h0
     have fin:∀b q,xv=Value.pointer (some ⟨b,q,none⟩)→(((E.desc s).bind fun d=>(asPtr xv).bind fun p=>(match d with
      | .struct fields=>(fields[fd]?).bind fun fl=>(E.size fl.type).bind fun n=>grd (Nat.blt 0 n) (some (Value.pointer (some ⟨p.1,p.2+fl.offset,none⟩)))
      |_=>none))=some (Value.pointer (some ⟨b,q+fl.offset,none⟩))):=by
      rintro b q rfl
      rw[L.desc _ _ hd]
      simp only[Option.bind_some,asPtr,hf,L.size _ _ hn,h0,grd]
     split at hw
     ·cases hx with
      |ptr hb=>exact⟨_,_,fin _ _ rfl,.ptr hb,hw⟩
     ·cases hx with
      |ep h1 h2 h3 h4 h5=>exact⟨_,_,fin _ _ rfl,by rw[Nat.add_assoc];exact .ep h1 h2 h3 h4 h5,hw⟩
     ·have go:∀{m i p:Nat} {y:TO},look o m=some y→arrO y=true→VR c ρ F h (.wp m i p) xv→K (.wp m i (p+fl.offset)) o c .pure→PRes c ρ F h o ((E.desc s).bind fun d=>(asPtr xv).bind fun p=>(match d with
       | .struct fields=>(fields[fd]?).bind fun fl=>(E.size fl.type).bind fun n=>grd (Nat.blt 0 n) (some (.pointer (some ⟨p.1,p.2+fl.offset,none⟩)))
       |_=>none)) K:=by
       intro m i p y hl hy hx hw
       obtain⟨b,z,l,hb,rfl⟩:=wp_ptr H hl hy hx
       cases hx with
       |wp hn h1c ha h0=>
        refine⟨_,_,fin _ _ rfl,.wp hn rfl (fun b' z' l' hx'=>?_) h0,hw⟩
        rw[hb]at hx';cases hx';rw[Nat.add_assoc]
      split at hw
      ·rename_i hl;exact go hl rfl hx hw
      ·rename_i hl;exact go hl rfl hx hw
      ·exact hw.elim
     ·exact hw.elim
    ·exact hw.elim
   ·exact hw.elim
  ·exact hw.elim
 ·exact hw.elim
theorem ofCells_rel {agg:Bool} {l:List TV} {v:TV} (ho:ofCells agg l=some v) {m:List Value} (H:VRs c ρ F h l m):∃x,fromCells agg m=some x∧VR c ρ F h v x:=by
 unfold ofCells at ho
 split at ho
 ·cases ho;exact⟨_,rfl,.agg_of (by simpa using H)⟩
 ·cases ho
  obtain⟨x,m',rfl,h1,h2⟩:=H.inv_cons
  rw[h2.inv_nil]
  exact⟨x,rfl,h1⟩
 ·cases ho
theorem takeN_rel {n:Nat} {l r:List TV} (ht:takeN n l=some r) {m:List Value} (H:VRs c ρ F h l m):∃q,takeN n m=some q∧VRs c ρ F h r q:=by
 rw[takeN_some]at ht
 obtain⟨h1,rfl⟩:=ht
 exact⟨m.take n,by rw[takeN_some];exact⟨by rw[←H.1];exact h1,rfl⟩,H.take n⟩
theorem wfield_ok (L:EnvLe T E) {t:TypeId} {x:TV} {fd:Nat} {xv:Value} (hw:wfield T t x fd o c K) (hx:VR c ρ F h x xv):
 PRes c ρ F h o ((E.desc t).bind fun d=>(asA xv).bind fun cs=>(match d with
 | .struct fields=>(fields[fd]?).bind fun fl=>partV E fl.type cs fl.offset
 |_=>none)) K:=by
 unfold wfield at hw
 split at hw
 ·rename_i fields hd
  split at hw
  ·rename_i fl cs hf
   split at hw
   ·rename_i agg n hs
    split at hw
    ·rename_i l hl
     split at hw
     ·rename_i v hv
      obtain⟨hK,_⟩:=force_iff hw
      obtain⟨a,rfl,h1⟩:=hx.inv_agg
      obtain⟨q,h2,h3⟩:=takeN_rel hl (h1.drop fl.offset)
      obtain⟨x,h4,h5⟩:=ofCells_rel hv h3
      refine⟨v,x,?_,h5,hK⟩
      rw[L.desc _ _ hd]
      simp only[Option.bind_some,asA,hf,partV,L.shape hs,h2,h4]
     ·exact hw.elim
    ·exact hw.elim
   ·exact hw.elim
  ·exact hw.elim
 ·exact hw.elim
theorem asIT_rel {i:TV} {x:Value} {n:Int} (hi:asIT i=some n) (hx:VR c ρ F h i x):asI x=some n:=by
 unfold asIT at hi
 split at hi
 ·cases hi;rw[hx.inv_s.1];rfl
 ·cases hi
theorem windexAddr_ok (L:EnvLe T E) (H:Mem X ρ F o c h) {t:TypeId} {x i:TV} {xv iv:Value} (hw:windexAddr T t x i o c K) (hx:VR c ρ F h x xv) (hi:VR c ρ F h i iv):PRes c ρ F h o (aindexAddr E t xv iv) K:=by
 unfold windexAddr at hw
 split at hw
 ·rename_i elem i' hd hi'
  have hI:=asIT_rel hi' hi
  split at hw
  ·rename_i n hn
   have fin:∀b q z len cap,xv=Value.slice (some ⟨b,q,some z⟩) len cap→0≤i'→i'<len→aindexAddr E t xv iv=some (.pointer (some ⟨b,q+i'.toNat*n,none⟩)):=by
    rintro b q z len cap rfl h1 h2
    unfold aindexAddr
    rw[L.desc _ _ hd,hI]
    simp only[Option.bind_some,L.size _ _ hn,grd,h1,h2,decide_true,Bool.and_self]
   split at hw
   ·rename_i z es fl
    split at hw
    ·rename_i hz
     rw[beq_iff]at hz
     obtain⟨e,⟨h0,he⟩,hK⟩:=hw
     cases hx with
     |nil hes=>subst hes;simp at he
     |sl q1 q2 q3 q4 q5 q6 q7 q8 q9 q10=>
      have hlt:=(List.getElem?_eq_some_iff.1 he).1
      refine⟨_,_,fin _ _ _ _ _ rfl h0 (by omega),?_,hK⟩
      have hel:=q8 e (List.mem_of_getElem? he)
      rw[←Nat.add_zero (_+_*n)]
      refine .ep q1 q2 ?_ (q9 e (List.mem_of_getElem? he)) fun j t v r1 r2=>q10 _ j e t v he r1 (by rw[hz];exact r2)
      rw[hel,←hz]
      have:(i'.toNat+1)*z≤es.length*z:=Nat.mul_le_mul_right z hlt
      rw[Nat.add_mul]at this
      subst q4
      omega
    ·exact hw.elim
   ·rename_i m
    have go:∀{y:TO},look o m=some y→arrO y=true→zOf y=n→0≤i'→i'<lenO y→K (.wp m i'.toNat 0) o c .pure→PRes c ρ F h o (aindexAddr E t xv iv) K:=by
     intro y hl hy hz h0 h1 hK
     obtain⟨S,hO⟩:=H.objs hl
     rcases hO.tk hy hx with⟨e,_⟩|⟨b,cap,hb,_,rfl⟩
     ·rw[e]at h1;omega
     ·refine⟨_,_,fin _ _ _ _ _ rfl h0 h1,?_,hK⟩
      cases hx with
      |tk hn' h1c ha h0'=>
       refine .wp hn' rfl (fun b' z2 l2 hx'=>?_) (fun z2 hx'=>by rw[hb]at hx';cases hx')
       rw[hb]at hx';cases hx'
       rw[Nat.zero_add,Nat.add_zero,hz]
    split at hw
    ·rename_i z w es hl
     split at hw
     ·rename_i hz
      obtain⟨⟨h0,h1⟩,hK⟩:=hw
      exact go hl rfl (beq_iff.1 hz) h0 h1 hK
     ·exact hw.elim
    ·rename_i z es op hl
     split at hw
     ·rename_i hz
      obtain⟨⟨h0,h1⟩,hK⟩:=hw
      exact go hl rfl (beq_iff.1 hz) h0 h1 hK
     ·exact hw.elim
    ·exact hw.elim
   ·exact hw.elim
  ·exact hw.elim
 ·rename_i len elem i' hd hi'
  have hI:=asIT_rel hi' hi
  split at hw
  ·rename_i n hn
   obtain⟨⟨h1,h2⟩,hw⟩:=hw
   have fin:∀b q,xv=Value.pointer (some ⟨b,q,none⟩)→aindexAddr E t xv iv=some (.pointer (some ⟨b,q+i'.toNat*n,none⟩)):=by
    rintro b q rfl
    unfold aindexAddr
    rw[L.desc _ _ hd,hI]
    simp only[Option.bind_some,L.size _ _ hn,grd,h1,h2,decide_true,Bool.and_self]
   split at hw
   ·cases hx with
    |ptr hb=>exact⟨_,_,fin _ _ rfl,.ptr hb,hw⟩
   ·cases hx with
    |ep q1 q2 q3 q4 q5=>exact⟨_,_,fin _ _ rfl,by rw[Nat.add_assoc];exact .ep q1 q2 q3 q4 q5,hw⟩
   ·exact hw.elim
  ·exact hw.elim
 ·exact hw.elim
theorem windex_ok (L:EnvLe T E) {t:TypeId} {x i:TV} {xv iv:Value} (hw:windex T t x i o c K) (hx:VR c ρ F h x xv) (hi:VR c ρ F h i iv):PRes c ρ F h o (aindex E t xv iv) K:=by
 unfold windex at hw
 split at hw
 ·rename_i i' hd hi'
  have hI:=asIT_rel hi' hi
  split at hw
  ·obtain⟨b,⟨h1,h2⟩,hK⟩:=hw
   rw[hx.inv_s.1]
   refine⟨_,_,?_,.s rfl,hK⟩
   unfold aindex
   rw[L.desc _ _ hd,hI]
   simp only[Option.bind_some,grd,h1,decide_true,h2]
  ·exact hw.elim
 ·rename_i len elem i' hd hi'
  have hI:=asIT_rel hi' hi
  split at hw
  ·rename_i z agg n cs hz hs
   obtain⟨⟨h1,h2⟩,hw⟩:=hw
   split at hw
   ·rename_i l hl
    split at hw
    ·rename_i v hv
     obtain⟨hK,_⟩:=force_iff hw
     obtain⟨a,rfl,k1⟩:=hx.inv_agg
     obtain⟨q,h3,h4⟩:=takeN_rel hl (k1.drop (i'.toNat*z))
     obtain⟨x,h5,h6⟩:=ofCells_rel hv h4
     refine⟨v,x,?_,h6,hK⟩
     unfold aindex
     rw[L.desc _ _ hd,hI]
     simp only[Option.bind_some,L.size _ _ hz,grd,h1,h2,decide_true,Bool.and_self,partV,L.shape hs,h3,h5]
    ·exact hw.elim
   ·exact hw.elim
  ·exact hw.elim
 ·exact hw.elim
end
end Go.M
namespace Go.M
open Go
section
variable {T E:Env} {X:Cx} {ρ:Gh} {F:Nat→Prop} {o:Ob} {c:Nat} {af:AF} {f:Fr} {h:AHeap} {p:Oper} {K:OK}
def PSRes (X:Cx) (c:Nat) (ρ:Gh) (F:Nat→Prop) (h:AHeap) (o:Ob) (canon:Option Value) (K:OK):Prop:=
 ∃v x o' F',canon=some x∧Mem X ρ F' o' c h∧(∀t x,VR c ρ F h t x→VR c ρ F' h t x)∧(∀b,F b→F' b)∧(∀n y,look o n=some y→∃y',look o' n=some y'∧weak y y')∧VR c ρ F' h v x∧K v o' c .pure
theorem PRes.toS (H:Mem X ρ F o c h) {canon:Option Value} (R:PRes c ρ F h o canon K):PSRes X c ρ F h o canon K:=by
 obtain⟨v,x,h1,h2,h3⟩:=R
 exact⟨v,x,o,F,h1,H,fun _ _ h=>h,fun _ h=>h,fun n y hl=>⟨y,hl,weak.refl y⟩,h2,h3⟩
theorem PSRes.did {canon:Option Value} (H:Mem X ρ F o c h) (R:PSRes X c ρ F h o canon K) (hp:apure E af p=canon):Did E X ρ F o c af h p K:=by
 obtain⟨v,x,o',F',h1,h2,h3,h4,h5,h6,h7⟩:=R
 exact Did.pureS H h2 h3 h4 h5 (hp.trans h1) h6 h7
theorem weak_shareO (o:Ob) (m:Nat):∀n y,look o n=some y→∃y',look (shareO o m) n=some y'∧weak y y':=by
 intro n y hl
 unfold shareO
 split
 ·rename_i z w es hm
  rw[look_upd1]
  by_cases e:n=m
  ·subst e
   rw[if_pos rfl,hm]
   rw[hm]at hl;cases hl
   exact⟨_,rfl,rfl,rfl,fun h=>by cases h⟩
  ·rw[if_neg e];exact⟨y,hl,weak.refl y⟩
 ·exact⟨y,hl,weak.refl y⟩
theorem vbound_some {d y:Nat} {i:Int} (hi:0≤i) (hy:i≤y) (k:IntKind):boundV d y (some (.int k i))=some i.toNat:=by
 simp[boundV,grd,hi,hy]
theorem bnd_rel {d:Nat} {lo:Option TV} {lov:Option Value} {l:Int} (hb:bnd d lo=some l) (hl:(lo=none∧lov=none)∨∃y v,lo=some y∧lov=some v∧VR c ρ F h y v):
 (lov=none∧l=d)∨∃k,lov=some (.int k l):=by
 rcases hl with⟨rfl,rfl⟩|⟨y,v,rfl,rfl,hv⟩
 ·simp[bnd]at hb;exact .inl ⟨rfl,hb.symm⟩
 ·unfold bnd at hb
  split at hb
  ·rename_i he;cases he
  ·rename_i k i he
   cases he;cases hb
   rw[hv.inv_s.1]
   exact .inr ⟨k,rfl⟩
  ·cases hb
theorem boundV_rel {d y:Nat} {l:Int} {lov:Option Value} (h1:(lov=none∧l=d)∨∃k,lov=some (.int k l)) (h0:0≤l) (hy:l≤y):boundV d y lov=some l.toNat:=by
 rcases h1 with⟨rfl,rfl⟩|⟨k,rfl⟩
 ·simp[boundV]
 ·exact vbound_some h0 hy k
theorem asliceV_some {t elem:TypeId} {n z b o' len cap:Nat} {lo hi mx:Option Value} {l hh m:Nat} (hd:E.desc t=some (.slice elem)) (hn:E.size elem=some n) (hz:n=z) (hm:boundV cap len mx=some m)
 (hhi:boundV len (bif mx.isSome then m else len) hi=some hh) (hc:hi.isSome||mx.isNone) (hlo:boundV 0 hh lo=some l):
 asliceV E t (.slice (some ⟨b,o',some z⟩) len cap) lo hi mx=some (.slice (some (bif Nat.beq m l then⟨b,o',some z⟩else⟨b,o'+l*z,some z⟩)) (hh - l) (m - l)):=by
 unfold asliceV
 subst hz
 rw[hd]
 simp only[Option.bind_some,hn,hm,hhi,hlo,grd,hc]
 simp
theorem slice_part {z b oo len cap:Nat} {es:List (List TV)} {fl:Bool} (hv:VR c ρ F h (.sl z es fl) (.slice (some ⟨b,oo,some z⟩) len cap)) {l hh m:Nat} (hl:l≤hh) (hhl:hh≤es.length) (hm:hh≤m) (fl':Bool) (hfl:fl'=true→m=hh):
 VR c ρ F h (.sl z ((es.take hh).drop l) fl') (.slice (some (bif Nat.beq m l then⟨b,oo,some z⟩else⟨b,oo+l*z,some z⟩)) (hh - l) (m - l)):=by
 cases hv with
 |sl q1 q2 q3 q4 q5 q6 q7 q8 q9 q10=>
  have hlen:((es.take hh).drop l).length=hh - l:=by simp;omega
  by_cases e:m=l
  ·have e2:hh=l:=by omega
   subst e2
   subst e
   rw[show(bif Nat.beq m m then(⟨b,oo,some z⟩:Addr)else⟨b,oo+m*z,some z⟩)=⟨b,oo,some z⟩ by simp]
   refine .sl q1 q2 q3 hlen (by omega) (fun _=>rfl) (by simp;omega) (fun e he=>?_) (fun e he=>?_) fun i j e t v r1=>?_
   ·exact q8 e (List.mem_of_mem_take (List.mem_of_mem_drop he))
   ·exact q9 e (List.mem_of_mem_take (List.mem_of_mem_drop he))
   ·have:=(List.getElem?_eq_some_iff.1 r1).1;omega
  ·rw[show(bif Nat.beq m l then(⟨b,oo,some z⟩:Addr)else⟨b,oo+l*z,some z⟩)=⟨b,oo+l*z,some z⟩ by
    rw[nbeq];simp[e]]
   refine .sl q1 q2 q3 hlen (by omega) (fun h=>by rw[hfl h]) ?_ (fun e he=>?_) (fun e he=>?_) fun i j e t v r1 r2 r3=>?_
   ·have:(l+(hh - l))*z≤es.length*z:=Nat.mul_le_mul_right z (by omega)
    rw[Nat.add_mul]at this
    subst q4;omega
   ·exact q8 e (List.mem_of_mem_take (List.mem_of_mem_drop he))
   ·exact q9 e (List.mem_of_mem_take (List.mem_of_mem_drop he))
   ·rw[List.getElem?_drop,List.getElem?_take]at r1
    split at r1
    ·refine q10 (l+i) j e t v r1 r2 ?_
     rw[←r3,Nat.add_mul]
     congr 1;omega
    ·cases r1
theorem asliceV_nil {t elem n:Nat} {lo hi mx:Option Value} {l hh m:Nat} (hd:E.desc t=some (.slice elem)) (hn:E.size elem=some n) (hm:boundV 0 0 mx=some m)
 (hhi:boundV 0 (bif mx.isSome then m else 0) hi=some hh) (hc:hi.isSome||mx.isNone) (hlo:boundV 0 hh lo=some l):
 asliceV E t (.slice none 0 0) lo hi mx=some (.slice none 0 0):=by
 unfold asliceV
 rw[hd]
 simp only[Option.bind_some,hn,hm,hhi,hlo,grd,hc]
def OptR (c:Nat) (ρ:Gh) (F:Nat→Prop) (h:AHeap) (y:Option TV) (v:Option Value):Prop:=(y=none∧v=none)∨∃y' v',y=some y'∧v=some v'∧VR c ρ F h y' v'
theorem wslice_core (L:EnvLe T E) {t:TypeId} {z n l hh m:Nat} {elem:TypeId} {es:List (List TV)} {fl:Bool} {xv:Value} {lov hiv mxv:Option Value} (hd:T.desc t=some (.slice elem)) (hn:T.size elem=some n) (hz:z=n∨z=0)
 (hx:VR c ρ F h (.sl z es fl) xv) (hl:l≤hh) (hhl:hh≤es.length) (_:hh≤m) (fl':Bool) (_:fl'=true→m=hh)
 (b1:∀len cap,len=es.length→len≤cap→∃m',boundV cap len mxv=some m'∧boundV len (bif mxv.isSome then m' else len) hiv=some hh∧hh≤m'∧(fl'=true→m'=hh)) (b2:(hiv.isSome||mxv.isNone)=true) (b3:boundV 0 hh lov=some l):
 ∃x,asliceV E t xv lov hiv mxv=some x∧VR c ρ F h (.sl z ((es.take hh).drop l) fl') x:=by
 cases hx with
 |nil he=>
  subst he
  obtain⟨m',k1,k2,_,_⟩:=b1 0 0 rfl (Nat.le_refl _)
  refine⟨_,asliceV_nil (L.desc _ _ hd) (L.size _ _ hn) k1 k2 b2 b3,.nil (by simp)⟩
 |sl q1 q2 q3 q4 q5 q6 q7 q8 q9 q10=>
  have hzn:n=z:=by omega
  obtain⟨m',k1,k2,k3,k4⟩:=b1 _ _ q4.symm q5
  refine⟨_,asliceV_some (L.desc _ _ hd) (L.size _ _ hn) hzn k1 k2 b2 b3,slice_part (.sl q1 q2 q3 q4 q5 q6 q7 q8 q9 q10) hl hhl k3 fl' k4⟩
theorem esOf_rel (H:Mem X ρ F o c h) {x:TV} {z:Nat} {es:List (List TV)} (he:esOf o x=some (z,es)):∃F',Mem X ρ F' (share1 o x) c h∧(∀t v,VR c ρ F h t v→VR c ρ F' h t v)∧(∀b,F b→F' b)∧(∀n y,look o n=some y→∃y',look (share1 o x) n=some y'∧weak y y')∧
 ∀xv,VR c ρ F h x xv→∃fl,VR c ρ F' h (.sl z es fl) xv:=by
 unfold esOf at he
 split at he
 ·cases he;exact⟨F,H,fun _ _ h=>h,fun _ h=>h,fun n y hl=>⟨y,hl,weak.refl y⟩,fun xv hx=>⟨_,hx⟩⟩
 ·rename_i m
  split at he
  ·rename_i w es' hl
   cases he
   obtain⟨F',h1,h2,h3,h4⟩:=H.share m
   exact⟨F',h1,h2,h3,weak_shareO o m,fun xv hx=>⟨false,h4 _ _ _ _ hl hx⟩⟩
  ·cases he
 ·cases he
theorem wslice_ok (L:EnvLe T E) (H:Mem X ρ F o c h) {t:TypeId} {x:TV} {xv:Value} {lo hi mx:Option TV} {lov hiv mxv:Option Value} (hw:wslice T t x lo hi mx o c K) (hx:VR c ρ F h x xv) (hlo:OptR c ρ F h lo lov) (hhi:OptR c ρ F h hi hiv) (hmx:OptR c ρ F h mx mxv):
 PSRes X c ρ F h o (asliceV E t xv lov hiv mxv) K:=by
 unfold wslice at hw
 split at hw
 ·rename_i hd
  split at hw
  ·rename_i s
   split at hw
   ·rename_i hh l e1 e2
    obtain⟨⟨h1,h2,h3⟩,hK⟩:=hw
    rcases hmx with⟨_,rfl⟩|⟨_,_,e,_⟩
    ·refine PRes.toS H ⟨_,_,?_,.s rfl,hK⟩
     rw[hx.inv_s.1]
     have a1:boundV s.size s.size hiv=some hh.toNat:=boundV_rel (bnd_rel e1 hhi) (by omega) h3
     have a2:boundV 0 hh.toNat lov=some l.toNat:=boundV_rel (bnd_rel e2 hlo) h1 (by omega)
     unfold asliceV
     rw[L.desc _ _ hd]
     simp only[Option.bind_some,grd,a1,a2]
     rfl
    ·cases e
   ·exact hw.elim
  ·exact hw.elim
 ·rename_i elem hd
  split at hw
  ·rename_i n z es hn he
   obtain⟨F',k1,k2,k3,k4,k5⟩:=esOf_rel H he
   obtain⟨fl,hxs⟩:=k5 xv hx
   split at hw
   ·rename_i hz
    simp only[Bool.or_eq_true,beq_iff]at hz
    split at hw
    ·rcases hmx with⟨_,rfl⟩|⟨_,_,e,_⟩
     ·split at hw
      ·rename_i hh l e1 e2
       have plain:(0≤l∧l≤hh∧hh≤es.length)→K (.sl z ((es.take hh.toNat).drop l.toNat) false) (share1 o x) c .pure→PSRes X c ρ F h o (asliceV E t xv lov hiv none) K:=by
        rintro⟨h1,h2,h3⟩ hK
        obtain⟨x',q1,q2⟩:=wslice_core L (l:=l.toNat) (hh:=hh.toNat) (m:=hh.toNat) hd hn hz hxs (by omega) (by omega) (Nat.le_refl _) false (lov:=lov) (hiv:=hiv) (mxv:=none) (fun h=>by cases h)
         (fun len cap e3 e4=>⟨cap,rfl,by subst e3;exact boundV_rel (bnd_rel e1 hhi) (by omega) h3,by subst e3;omega,fun h=>by cases h⟩) (by simp) (boundV_rel (bnd_rel e2 hlo) h1 (by omega))
        exact⟨_,x',_,F',q1,k1,k2,k3,k4,q2,hK⟩
       split at hw
       ·obtain⟨hc,hK⟩:=hw;exact plain hc hK
       ·rename_i n' hsq
        obtain⟨hc,hK⟩:=hw
        rcases hK with hK|hK
        ·exact plain hc hK
        obtain⟨h1,h2,h3⟩:=hc
        obtain⟨rfl,rfl⟩:x= .tk n'∧hi=none:=by
         unfold svQ at hsq
         split at hsq
         ·cases hsq;exact⟨rfl,rfl⟩
         ·cases hsq
        have hhiv:hiv=none:=by
         rcases hhi with⟨_,e⟩|⟨_,_,e,_⟩
         ·exact e
         ·cases e
        subst hhiv
        have hhe:hh=es.length:=by simpa[bnd]using e1.symm
        subst hhe
        obtain⟨w,hl⟩:∃w,look o n'=some (.arr z w es):=by
         unfold esOf at he
         simp only at he
         split at he
         ·rename_i w _ hl;cases he;exact⟨_,hl⟩
         ·cases he
        have b3:∀y:Nat,l≤y→boundV 0 y lov=some l.toNat:=fun y hy=>boundV_rel (bnd_rel e2 hlo) h1 hy
        obtain⟨Sm,hO⟩:=H.objs hl
        have hnc:n'<c:=by cases hx with|tk hn=>exact hn
        rcases hO.tk rfl hx with⟨h0,hb,rfl |⟨b,o',cs,_,_,hz0,_,rfl⟩⟩|⟨b,cap,hb,hcap,rfl⟩
        ·have h0:es.length=0:=h0
         have hl0:l.toNat=0:=by omega
         refine⟨.sv n' l.toNat,.slice none 0 0,o,F,asliceV_nil (L.desc _ _ hd) (L.size _ _ hn) (m:=0) (hh:=0) (l:=0) rfl rfl rfl (by have:=b3 0 (by omega);rwa [hl0]at this),H,fun _ _ h=>h,fun _ h=>h,fun n y hl=>⟨y,hl,weak.refl y⟩,
          .sv hnc rfl (fun b z len e=>by rw[hb]at e;cases e) (fun _ _=>.inl rfl),hK⟩
        ·have h0:es.length=0:=h0
         have hl0:l.toNat=0:=by omega
         have hz0:0<z:=hz0
         refine⟨.sv n' l.toNat,_,o,F,asliceV_some (L.desc _ _ hd) (L.size _ _ hn) (z:=z) (m:=0) (hh:=0) (l:=0) (by omega) rfl rfl rfl (by have:=b3 0 (by omega);rwa [hl0]at this),H,fun _ _ h=>h,fun _ h=>h,fun n y hl=>⟨y,hl,weak.refl y⟩,
          .sv hnc rfl (fun b z len e=>by rw[hb]at e;cases e) (fun _ _=>.inr ⟨_,_,_,_,rfl⟩),hK⟩
        ·have hz0:0<z:=by
          cases hO with
          |nil hb'=>rw[hb]at hb';cases hb'
          |arr _ _ _ _ _ hz=>exact hz
         have hb:ρ n'=some (.arr b z es.length):=hb
         have hcap:es.length≤cap:=hcap
         refine⟨.sv n' l.toNat,_,o,F,asliceV_some (L.desc _ _ hd) (L.size _ _ hn) (z:=z) (m:=cap) (hh:=es.length) (l:=l.toNat) (by omega) rfl rfl rfl (b3 _ (by omega)),H,fun _ _ h=>h,fun _ h=>h,fun n y hl=>⟨y,hl,weak.refl y⟩,
          .sv hnc rfl (fun b1 z1 len1 e=>?_) (fun _ e=>by rw[hb]at e;cases e),hK⟩
         rw[hb]at e;cases e
         cases hbq:Nat.beq cap l.toNat with
         |true=>
          have:=beq_iff.1 hbq
          exact⟨_,_,rfl,fun hlt=>by omega⟩
         |false=>exact⟨_,_,rfl,fun _=>Nat.zero_add _⟩
      ·exact hw.elim
     ·cases e
    ·rename_i m _
     split at hw
     ·rename_i kk hh l m' e2 e3
      obtain⟨⟨h1,h2,rfl,h3⟩,hK⟩:=hw
      rcases hmx with⟨e,_⟩|⟨y1,v1,e,rfl,hv1⟩
      ·cases e
      ·cases e
       rcases hhi with⟨e,_⟩|⟨y2,v2,e,rfl,hv2⟩
       ·cases e
       ·cases e
        have hm':∃k,v1= .int k hh:=by
         unfold asIT at e3
         split at e3
         ·cases e3;rw[hv1.inv_s.1];exact⟨_,rfl⟩
         ·cases e3
        obtain⟨k',rfl⟩:=hm'
        rw[hv2.inv_s.1]
        obtain⟨x',q1,q2⟩:=wslice_core L (l:=l.toNat) (hh:=hh.toNat) (m:=hh.toNat) hd hn hz hxs (by omega) (by omega) (Nat.le_refl _) true (lov:=lov) (hiv:=some (.int kk hh)) (mxv:=some (.int k' hh)) (fun _=>rfl)
         (fun len cap e3 e4=>⟨hh.toNat,vbound_some (by omega) (by subst e3;omega) k',vbound_some (by omega) (by simp;omega) kk,Nat.le_refl _,fun _=>rfl⟩) rfl (boundV_rel (bnd_rel e2 hlo) h1 (by omega))
        exact⟨_,x',_,F',q1,k1,k2,k3,k4,q2,hK⟩
     ·exact hw.elim
   ·exact hw.elim
  ·exact hw.elim
 ·exact hw.elim
end
end Go.M
namespace Go.M
open Go
section
variable {T E:Env} {X:Cx} {ρ:Gh} {F:Nat→Prop} {o:Ob} {c:Nat} {af:AF} {f:Fr} {h:AHeap} {p:Oper} {K:OK}
theorem one_cells {x:Value} (h:∀a,x≠ .agg a):x.cells= #[x]:=by
 cases x<;>first|rfl |exact absurd rfl (h _)
theorem plain1_noagg {x:Value} (h:plain1 x=true):∀a,x≠ .agg a:=by rintro a rfl;simp[plain1]at h
theorem cells_rel {v:TV} {x:Value} (hv:VR c ρ F h v x) (ho:okV v=true):VRs c ρ F h (cellsT v) x.cells.toList:=by
 have one:(∀a,x≠ .agg a)→cellsT v=[v]→VRs c ρ F h (cellsT v) x.cells.toList:=fun h1 h2=>by
  rw[h2,one_cells h1];exact .cons hv .nil
 cases hv with
 |j=>simp[okV,okC]at ho
 |s hp=>exact one (plain1_noagg hp) rfl
 |nil=>exact one (by rintro a e;cases e) rfl
 |sl=>exact one (by rintro a e;cases e) rfl
 |tk hn h1c ha h0=>exact one (by rintro a rfl;simp[slV]at h1c) rfl
 |ptr=>exact one (by rintro a e;cases e) rfl
 |ep=>exact one (by rintro a e;cases e) rfl
 |wp hn h1c ha h0=>exact one (by rintro a rfl;simp[ptV]at h1c) rfl
 |mp=>exact one (by rintro a e;cases e) rfl
 |bg=>exact one (by rintro a e;cases e) rfl
 |sv=>simp[okV,okC]at ho
 |agg hs ha=>exact⟨by simpa[cellsT,Value.cells]using hs,fun i t v h1 h2=>ha i t v h1 (by simpa[Value.cells]using h2)⟩
 |tup=>simp[okV,okC]at ho
 |ifc=>exact one (by rintro a e;cases e) rfl
 |clo=>exact one (by rintro a e;cases e) rfl
theorem setN_rel:∀{n:Nat} {l xs r:List TV} {l' xs':List Value},setN l n xs=some r→VRs c ρ F h l l'→VRs c ρ F h xs xs'→∃r',setN l' n xs'=some r'∧VRs c ρ F h r r'
 |0,l,[],r,l',xs',hs,hl,hx=>by
  simp[setN]at hs;subst hs
  rw[hx.inv_nil]
  exact⟨l',by simp[setN],hl⟩
 |0,[],x::xs,r,l',xs',hs,hl,hx=>by simp[setN]at hs
 |0,y::l,x::xs,r,l',xs',hs,hl,hx=>by
  simp only[setN,Option.bind_eq_some_iff,Option.some.injEq]at hs
  obtain⟨q,hq,rfl⟩:=hs
  obtain⟨y',m,rfl,_,h2⟩:=hl.inv_cons
  obtain⟨x',k,rfl,h3,h4⟩:=hx.inv_cons
  obtain⟨r',h5,h6⟩:=setN_rel hq h2 h4
  exact⟨x'::r',by simp[setN,h5],.cons h3 h6⟩
 |n+1,[],xs,r,l',xs',hs,hl,hx=>by simp[setN]at hs
 |n+1,y::l,xs,r,l',xs',hs,hl,hx=>by
  simp only[setN,Option.bind_eq_some_iff,Option.some.injEq]at hs
  obtain⟨q,hq,rfl⟩:=hs
  obtain⟨y',m,rfl,h1,h2⟩:=hl.inv_cons
  obtain⟨r',h5,h6⟩:=setN_rel hq h2 hx
  exact⟨y'::r',by simp[setN,h5],.cons h1 h6⟩
theorem vfill_rel {pT pE:Nat→Option (Nat×Nat)} (hp:∀i x,pT i=some x→pE i=some x):∀{ps:List (Nat×TV)} {zs cs:List TV} {zv:List Value} {pv:List (Nat×Value)},vfill pT zs ps=some cs→VRs c ρ F h zs zv→PRs c ρ F h ps pv→
 ∃cv,fillA pE zv pv=some cv∧VRs c ρ F h cs cv
 |[],zs,cs,zv,[],hf,hz,_=>by simp[vfill]at hf;subst hf;exact⟨zv,rfl,hz⟩
 |[],zs,cs,zv,_::_,hf,hz,hq=>hq.elim
 |a::l,zs,cs,zv,[],hf,hz,hq=>hq.elim
 |a::l,zs,cs,zv,b::m,hf,hz,hq=>by
  obtain⟨e,hv,hr⟩:=hq
  unfold vfill at hf
  split at hf
  ·rename_i q n hpl
   split at hf
   ·rename_i hc
    simp only[Bool.and_eq_true,beq_iff]at hc
    have hcr:=cells_rel hv hc.1
    split at hf
    ·rename_i cs1 hset
     obtain⟨r',h1,h2⟩:=setN_rel hset hz hcr
     obtain⟨cv,h3,h4⟩:=vfill_rel hp hf h2 hr
     refine⟨cv,?_,h4⟩
     obtain⟨i,x⟩:=b
     simp only[fillA]
     simp only at e
     subst e
     rw[hp _ _ hpl]
     simp only[Option.bind_some]
     have:x.cells.size=n:=by have:=hcr.1;simp only[Array.length_toList]at this;omega
     rw[this]
     simp[grd,h1,h3]
    ·cases hf
   ·cases hf
  ·cases hf
theorem wbuild_ok (L:EnvLe T E) {t:TypeId} {ps:List (Nat×TV)} {pv:List (Nat×Value)} (hw:wbuild T t ps o c K) (hp:PRs c ρ F h ps pv):PRes c ρ F h o (abuild E t pv) K:=by
 unfold wbuild at hw
 split at hw
 ·rename_i fields z hd hz
  obtain⟨hz',hpl⟩:=L.zero _ _ hz
  split at hw
  ·rename_i zs hall hzs
   rw[Array.all_toList]at hall
   split at hw
   ·rename_i cs hf
    have hpm:∀i x,placeF T fields i=some x→placeF E fields i=some x:=fun i x hx=>by
     unfold placeF at hx ⊢
     simp only[Option.bind_eq_some_iff]at hx ⊢
     obtain⟨fd,h1,n,h2,h3⟩:=hx
     exact⟨fd,h1,n,L.size _ _ h2,h3⟩
    obtain⟨cv,h1,h2⟩:=vfill_rel hpm hf (zcells_rel hpl hzs) hp
    refine⟨_,_,?_,.agg_of (a:=cv.toArray) (by simpa using h2),hw⟩
    unfold abuild
    rw[L.desc _ _ hd,hz']
    simp only[Option.bind_some]
    have hall':(fields.all fun fd=>(E.size fd.type).isSome)=true:=by
     rw[Array.all_eq_true]at hall ⊢
     intro i hi
     have:=hall i hi
     obtain⟨n,hn⟩:=Option.isSome_iff_exists.1 this
     rw[L.size _ _ hn];rfl
    rw[hall']
    simp[grd,h1]
   ·exact hw.elim
  ·exact hw.elim
 ·rename_i len elem z hd hz
  obtain⟨hz',hpl⟩:=L.zero _ _ hz
  split at hw
  ·rename_i n zs hn hzs
   split at hw
   ·rename_i cs hf
    obtain⟨cv,h1,h2⟩:=vfill_rel (pE:=fun i=>some (i*n,n)) (fun i x hx=>hx) hf (zcells_rel hpl hzs) hp
    refine⟨_,_,?_,.agg_of (a:=cv.toArray) (by simpa using h2),hw⟩
    unfold abuild
    rw[L.desc _ _ hd,hz']
    simp only[Option.bind_some,L.size _ _ hn,h1]
   ·exact hw.elim
  ·exact hw.elim
 ·exact hw.elim
theorem aconv_mono (L:EnvLe T E) {s d:TypeId} {x v:Value} (hx:aconv T s d x=some v):aconv E s d x=some v:=by
 unfold aconv at hx ⊢
 simp only[Option.bind_eq_some_iff]at hx ⊢
 obtain⟨q,h1,dd,h2,h3⟩:=hx
 exact⟨q,L.desc _ _ h1,dd,L.desc _ _ h2,h3⟩
end
end Go.M
namespace Go.M
open Go
section
variable {T E:Env} {X:Cx} {ρ:Gh} {F:Nat→Prop} {o:Ob} {c:Nat} {af:AF} {f:Fr} {h:AHeap} {p:Oper} {K:OK}
theorem eqL1_plain {v:Value} (hp:plain1 v=true) (hc:∀r,v≠ .chan r):eqL1 v v=true:=by
 cases v<;>simp[plain1]at hp<;>first
  |(simp[eqL1];done)
  |(exact absurd rfl (hc _))
  |(rename_i a;cases a<;>simp at hp<;>simp[eqL1])
theorem eqE_refl {t:TV} {x:Value} (hv:VR c ρ F h t x) (he:eqE t=true):eqL1 x x=true:=by
 cases hv with
 |j=>simp[eqE]at he
 |s hp=>exact eqL1_plain hp (by rintro r rfl;simp[eqE]at he)
 |nil=>simp[eqL1]
 |sl=>simp[eqL1]
 |tk hn h1c ha h0=>cases x<;>simp[slV]at h1c;simp[eqL1]
 |ptr=>simp[eqL1]
 |ep=>simp[eqL1]
 |wp hn h1c ha h0=>cases x<;>simp[ptV]at h1c;simp[eqL1]
 |mp=>simp[eqL1]
 |bg=>simp[eqE]at he
 |sv=>simp[eqE]at he
 |agg=>simp[eqE]at he
 |tup=>simp[eqE]at he
 |ifc hv1=>
  rename_i t v v'
  cases v<;>simp[eqE]at he
  rename_i w
  cases w<;>simp at he
  rw[hv1.inv_s.1]
  simp[eqL1]
 |clo hs ha ht hk=>
  rename_i g x y a k
  cases x<;>simp[eqE]at he
  cases y<;>simp at he
  simp at hs ht
  simp[eqL1,←hs,←ht]
theorem eqEs_refl:∀{l:List TV} {m:List Value},VRs c ρ F h l m→l.all eqE=true→eqLs m m=true
 |[],m,H,_=>by rw[H.inv_nil];rfl
 |t::l,m,H,he=>by
  simp only[List.all_cons,Bool.and_eq_true]at he
  obtain⟨v,m',rfl,h1,h2⟩:=H.inv_cons
  simp only[eqLs,Bool.and_eq_true]
  exact⟨eqE_refl h1 he.1,eqEs_refl h2 he.2⟩
theorem rdL_ok {c1:Nat} {ρ1:Gh} {l:List TV} {m:List Value} {v:VL} {q:RQ} {ρ':Gh} {o':Ob} {h':AHeap} (H:VRs c1 ρ1 F h l m) (hok:eqLs m m=true→LogOk ρ F o h ρ' o' h' v (.rd q h)):LogOk ρ F o h ρ' o' h' (rdL l v) (.rd q h):=by
 unfold rdL
 split
 ·rename_i he;exact hok (eqEs_refl H he)
 ·exact .bad
def RRes (X:Cx) (c:Nat) (ρ:Gh) (F:Nat→Prop) (h:AHeap) (o:Ob) (q:RQ) (K:OK):Prop:=∃v x lg ρ' o' c',q.run h=some x∧Nx X ρ F o c h ρ' F o' c' h∧VR c' ρ' F h v x∧K v o' c' lg∧LogOk ρ F o h ρ' o' h lg (.rd q h)
theorem RRes.did {q:RQ} (R:RRes X c ρ F h o q K) (hp:apure E af p=none) (hq:aread E af p=some q):Did E X ρ F o c af h p K:=by
 obtain⟨v,x,lg,ρ',o',c',h1,h2,h3,h4,h5⟩:=R
 refine⟨0,⟨x,h,.rd q h⟩,v,o',c',ρ',F,lg,fun n _=>?_,h4,h2,h3,h5⟩
 unfold runOp
 rw[hp,hq]
 simp[h1]
theorem RRes.same {q:RQ} (H:Mem X ρ F o c h) {v:TV} {x:Value} {lg:VL} (h1:q.run h=some x) (h2:VR c ρ F h v x) (h3:K v o c lg) (h4:LogOk ρ F o h ρ o h lg (.rd q h)):RRes X c ρ F h o q K:=⟨v,x,lg,ρ,o,c,h1,.refl H,h2,h3,h4⟩
theorem openL_nil:∀{l:List TV} {k:Nat},(openL l k).2=[]→(openL l k).1=l
 |[],_,_=>rfl
 |t::l,k,hn=>by
  cases t<;>first|(simp only[openL]at hn ⊢;rw[openL_nil hn])|(simp[openL]at hn)
theorem setN_eq {α:Type}:∀{l xs r:List α} {p:Nat},setN l p xs=some r→r=l.take p++(xs++(l.drop p).drop xs.length)
 |l,[],r,0,h=>by simp[setN]at h;subst h;simp
 |[],x::xs,r,0,h=>by simp[setN]at h
 |y::l,x::xs,r,0,h=>by
  simp only[setN,Option.bind_eq_some_iff,Option.some.injEq]at h
  obtain⟨q,hq,rfl⟩:=h
  have:=setN_eq hq
  simp only[List.take_zero,List.nil_append,List.drop_zero]at this
  rw[this];simp
 |[],xs,r,p+1,h=>by simp[setN]at h
 |y::l,xs,r,p+1,h=>by
  simp only[setN,Option.bind_eq_some_iff,Option.some.injEq]at h
  obtain⟨q,hq,rfl⟩:=h
  rw[setN_eq hq];simp
theorem openL_len:∀(l:List TV) (k:Nat),(openL l k).1.length=l.length
 |[],_=>rfl
 |t::l,k=>by cases t<;>simp[openL,openL_len l]
theorem wopen_ok (H:Mem X ρ F o c h) {S:Nat→Ft} (K0:MO X ρ F o c h S) {agg:Bool} {n p q m b:Nat} {e:List TV} {y:TO} {put:List TV→TO} {Se:Ft} {vs:List Value} {lg:VL} (hw:wopen agg n p e o c lg put m K) (hl:look o m=some y) (hb:atB ρ m b) (hlg:lg= .rdO m∨lg= .rdN m p .j∧p=q∧ρ m=some (.blk b))
 (hc:CNs c ρ F h X.base Se e vs) (hr:n≤(e.drop p).length→M.readCells h b q n=some ((vs.drop p).take n))
 (hput:∀c' ρ' e' S',(∀t v,VR c ρ F h t v→VR c' ρ' F h t v)→ρ' m=ρ m→e'.length=e.length→CNs c' ρ' F h X.base S' e' vs→∃S0,OR c' ρ' F h X.base m S0 (put e')∧∀R,Se.Perm (S'++R)→(S m).Perm (S0++R)):
 RRes X c ρ F h o (.cells agg b q n) K:=by
 unfold wopen at hw
 split at hw
 ·exact hw.elim
 ·rename_i l ht
  rw[takeN_some]at ht
  obtain⟨t1,rfl⟩:=ht
  have hrc:=hr t1
  obtain⟨S1,S2,S3,hS,a1,a2,a3⟩:=hc.part p n
  have fzm:∀t v,VR 0 noG F h t v→fz t=true→VR c ρ F h t v:=fun t v hv hf=>hv.fzmono hf
  split at hw
  ·rename_i hn0
   split at hw
   ·rename_i v hv
    obtain⟨hK,_⟩:=force_iff hw
    obtain⟨Ss,ls,b1,b2,b3⟩:=a2.opened c
    have hl0:ls.length=0:=by rw[b2.l2,hn0];rfl
    have hV:=b3 c ρ (fun _ _ h=>h) (by omega) (fun i q hq=>by
     have:=(List.getElem?_eq_some_iff.1 hq).1;omega)
    rw[openL_nil hn0]at hV
    obtain⟨x,h6,h7⟩:=ofCells_rel hv hV
    have main:eqLs ((vs.drop p).take n) ((vs.drop p).take n)=true→LogOk ρ F o h ρ o h (nmL v lg) (.rd (.cells agg b q n) h):=by
     intro he
     have pl:LogOk ρ F o h ρ o h (.rdO m) (.rd (.cells agg b q n) h):=.rdO (.refl _) rfl hl hb ⟨_,hrc,he⟩
     rcases hlg with rfl |⟨rfl,rfl,hbl⟩
     ·exact pl
     have one:∀w,v=w→isAggT w=false→plainC w=true→(∀cs,w≠ .agg cs)→(∀y,VR c ρ F h w y→NmVal ρ w y)→LogOk ρ F o h ρ o h (.rdN m p w) (.rd (.cells agg b p n) h):=by
      rintro w rfl _ _ hna hnm
      unfold ofCells at hv
      split at hv
      ·cases hv;exact absurd rfl (hna _)
      ·rename_i l' w' heq
       cases hv
       rw[heq]at hV
       obtain⟨y1,m1,e1,hy,hm1⟩:=hV.inv_cons
       obtain rfl:=hm1.inv_nil
       have hn1:n=1:=by
        have:=congrArg List.length heq
        rw[List.length_take]at this
        simp only[List.length_cons,List.length_nil]at this
        omega
       subst hn1
       rw[e1]at hrc
       exact .rdN (.refl _) rfl hl hbl (hnm _ hy) hrc
      ·cases hv
     unfold nmL
     split
     ·rename_i m' p' v' heq
      cases heq
      split
      ·exact one _ rfl rfl rfl (by rintro cs e;cases e) fun y hy=>by cases hy with|mp hb=>exact .inl ⟨_,_,rfl,hb,rfl⟩
      ·exact one _ rfl rfl rfl (by rintro cs e;cases e) fun y hy=>by cases hy with|ptr hb=>exact .inr ⟨_,_,_,rfl,hb,rfl⟩
      ·exact pl
     ·rename_i hne;exact absurd rfl (hne _ _ _)
    exact RRes.same H (by simp[RQ.run,hrc,h6]) h7 hK (rdL_ok hV main)
   ·exact hw.elim
  ·rename_i q0 new hn0
   split at hw
   ·rename_i e' v hset hv
    obtain⟨hK,_⟩:=force_iff hw
    have hA:∀ls:List Loc,∀t v,VR c ρ F h t v→VR (c+(new.length+1)) (addG ρ c ls) F h t v:=fun ls t v=>VR.mono (by omega) (fun n l hn h1=>by rwa [addG_old _ _ hn]at h1) (fun n b h1=>by rw[addG_old _ _ (H.names _ _ h1)];exact h1) (fun _ h=>h) (fun _ _ _ h=>h)
    obtain⟨Ss,ls,b1,b2,b3⟩:=a2.opened c
    rw[hn0]at b2
    have hl1:ls.length=new.length+1:=b2.l2
    have hV:=b3 (c+(new.length+1)) (addG ρ c ls) (hA ls) (by omega) (fun i q hq=>by rw[addG_new];exact hq)
    obtain⟨x,h6,h7⟩:=ofCells_rel hv hV
    have hlen:(openL ((e.drop p).take n) c).1.length=n:=by rw[openL_len,List.length_take];omega
    have he':=setN_eq hset
    rw[hlen]at he'
    have hm0:=H.lt hl
    have hCN:CNs (c+(new.length+1)) (addG ρ c ls) F h X.base (S1++S3) e' vs:=by
     have k1:=a1.keep (c':=c+(new.length+1)) (ρ':=addG ρ c ls) (F':=F) (h':=h) (T:=fun _=>False) H.wf (fun _ _ _=>rfl) (fun _ h=>h) (fun _ _ _ h=>h) (hA ls) (fun _ _ hf=>hf.elim)
     have k3:=a3.keep (c':=c+(new.length+1)) (ρ':=addG ρ c ls) (F':=F) (h':=h) (T:=fun _=>False) H.wf (fun _ _ _=>rfl) (fun _ h=>h) (fun _ _ _ h=>h) (hA ls) (fun _ _ hf=>hf.elim)
     have:=k1.join ((CNs.ofVRs (base:=X.base) hV).join k3)
     rw[List.take_append_drop,List.take_append_drop,←he']at this
     exact this
    obtain⟨S0,hO,hP⟩:=hput _ _ e' (S1++S3) (hA ls) (addG_old _ _ hm0) (setN_some hset).2.1 hCN
    have hperm:(S m).Perm (S0++Ss.flatten):=hP _ (by
     rw[hS,←b1,List.append_assoc]
     exact List.perm_append_comm.append_left _)
    obtain⟨M,hk⟩:=H.opens K0 (y1:=put e') hl b2 hperm (fun _=>hO)
    refine⟨v,x,_,_,_,_,by simp[RQ.run,hrc,h6],⟨M,hk,Nat.le_refl _,fun _ h=>h,fun _ _ _ h=>h⟩,h7,hK,rdL_ok hV fun he=>(show offL lg= .rdO m by rcases hlg with rfl |⟨rfl,_⟩<;>rfl)▸ .rdO (fun n' y' hl' _=>⟨?_,addG_old _ _ (H.lt hl'),fun b _=>⟨rfl,fun _ h=>h⟩⟩) rfl hl hb ⟨_,hrc,he⟩⟩
    rw[look_append,look_news b2,if_pos (H.lt hl')]
    simp only
    rw[look_upd1]
    by_cases em:n'=m
    ·rw[if_pos em,hl];exact⟨_,rfl⟩
    ·rw[if_neg em];exact⟨_,hl'⟩
   ·exact hw.elim
theorem rd_row {z i p n b:Nat} {v1 v2 v3:List Value} (hr:h.rd b=some (v1++(v2++v3))) (h1:v1.length=i*z) (h2:n≤(v2.drop p).length):M.readCells h b (i*z+p) n=some ((v2.drop p).take n):=by
 unfold M.readCells
 rw[hr]
 simp only[Option.bind_some,takeN_some]
 rcases Nat.eq_zero_or_pos n with h0|h0
 ·subst h0;simp
 ·simp only[List.length_drop]at h2
  have e:(v1++(v2++v3)).drop (i*z+p)=v2.drop p++v3:=by
   rw[←h1,List.drop_append,List.drop_eq_nil_of_le (by omega),Nat.add_sub_cancel_left,List.nil_append,List.drop_append_of_le_length (by omega)]
  rw[e]
  refine⟨by rw[List.length_append,List.length_drop];omega,?_⟩
  rw[List.take_append_of_le_length (by rw[List.length_drop];omega)]
theorem wload_ok (L:EnvLe T E) (H:Mem X ρ F o c h) {t:TypeId} {a:TV} {av:Value} (hw:wload T t a o c K) (ha:VR c ρ F h a av):
 ∃q,((asPtr av).bind fun p=>(shapeT E t).bind fun s=>some (.cells s.1 p.1 p.2 s.2))=some q∧RRes X c ρ F h o q K:=by
 unfold wload at hw
 split at hw
 ·exact hw.elim
 ·rename_i agg n hs
  have hs':=L.shape hs
  obtain⟨S,K0⟩:=H.ex
  split at hw
  ·rename_i m q
   split at hw
   ·rename_i cs hl
    have hO:=K0.objs m _ hl
    generalize hS:S m=Sm at hO
    cases hO with
    |cells hb hg htt hc=>
     rename_i Sq b thr cs'
     cases ha with
     |ptr hb'=>
      rw[hb]at hb';cases hb'
      refine⟨.cells agg b q n,by simp[asPtr,hs'],wopen_ok H K0 hw hl (.inl hb) (.inr ⟨rfl,rfl,hb⟩) hc (fun hn=>?_) fun c' ρ' e' S' hm hρ hlen hCN=>⟨_,.cells (hρ.trans hb) hg htt hCN,fun R hR=>by rw[hS];exact hR.cons _⟩⟩
      unfold M.readCells
      rw[rd_of (fam_of hg hg) htt (cellsOf_get hg)]
      simp only[Option.bind_some,takeN_some,and_true]
      have:=hc.len
      simp only[List.length_drop]at hn ⊢;omega
   ·exact hw.elim
  ·rename_i e q
   split at hw
   ·rename_i l ht
    split at hw
    ·rename_i v hv
     obtain⟨hK,_⟩:=force_iff hw
     cases ha with
     |ep h1 h2 h3 h4 h5=>
      rename_i b q0 cs
      rw[takeN_some]at ht
      obtain⟨t1,rfl⟩:=ht
      simp only[List.length_drop]at t1
      have hlen:n≤(cs.drop (q0+q)).length∨n=0:=by
       simp only[List.length_drop];omega
      have hR:VRs c ρ F h ((e.drop q).take n) ((cs.drop (q0+q)).take n):=by
       refine⟨by simp;omega,fun i t v r1 r2=>?_⟩
       rw[List.getElem?_take]at r1 r2
       split at r1
       ·rename_i hlt
        rw[if_pos hlt]at r2
        rw[List.getElem?_drop]at r1 r2
        exact h5 (q+i) t v r1 (by rw[←r2];congr 1;omega)
       ·cases r1
      obtain⟨x,h6,h7⟩:=ofCells_rel hv hR
      have hrc:M.readCells h b (q0+q) n=some ((cs.drop (q0+q)).take n):=by
       unfold M.readCells
       rw[h2]
       simp only[Option.bind_some,takeN_some,and_true]
       rcases hlen with h8|h8
       ·exact h8
       ·omega
      exact⟨.cells agg b (q0+q) n,by simp[asPtr,hs'],RRes.same H (by simp[RQ.run,hrc,h6]) h7 hK (rdL_ok hR fun he=>.rdF (.refl _) rfl h1 ⟨_,_,_,_,rfl⟩ ⟨_,hrc,he⟩)⟩
    ·exact hw.elim
   ·exact hw.elim
  ·rename_i m i q
   split at hw
   ·rename_i z w es hl
    obtain⟨e,he,hw⟩:=hw
    split at hw
    ·rename_i l ht
     split at hw
     ·rename_i v hv
      obtain⟨hK,_⟩:=force_iff hw
      obtain⟨b,z',l',hb,rfl⟩:=wp_ptr H hl rfl ha
      obtain⟨Sm,hO⟩:=H.objs hl
      cases hO with
      |nil hb' hz=>rw[hb]at hb';cases hb'
      |arr hb' hg hf htt hbf hz hlen hee hfz hc hF=>
       rename_i f t0 th0 thr cs
       rw[hb]at hb';cases hb'
       have hrd:=rd_of hf htt (cellsOf_get hg)
       rw[takeN_some]at ht
       obtain⟨t1,rfl⟩:=ht
       simp only[List.length_drop]at t1
       have hez:=hee e (List.mem_of_getElem? he)
       have hi:i<es.length:=(List.getElem?_eq_some_iff.1 he).1
       have hle:(i+1)*z≤es.length*z:=Nat.mul_le_mul_right z hi
       rw[Nat.add_mul]at hle
       have hR:VRs c ρ F h ((e.drop q).take n) ((cs.drop (i*z+q)).take n):=by
        refine⟨by simp;omega,fun j t v r1 r2=>?_⟩
        rw[List.getElem?_take]at r1 r2
        split at r1
        ·rename_i hlt
         rw[if_pos hlt]at r2
         rw[List.getElem?_drop]at r1 r2
         exact hc i (q+j) e t v he r1 (by rw[←r2];congr 1;omega)
        ·cases r1
       obtain⟨x,h6,h7⟩:=ofCells_rel hv hR
       have hrc:M.readCells h b (i*z+q) n=some ((cs.drop (i*z+q)).take n):=by
        unfold M.readCells
        rw[hrd]
        simp only[Option.bind_some,takeN_some,and_true,List.length_drop]
        omega
       exact⟨.cells agg b (i*z+q) n,by simp[asPtr,hs'],RRes.same H (by simp[RQ.run,hrc,h6]) h7 hK (rdL_ok hR fun he'=>.rdO (.refl _) rfl hl (.inr ⟨_,_,hb⟩) ⟨_,hrc,he'⟩)⟩
     ·exact hw.elim
    ·exact hw.elim
   ·rename_i z es op hl
    obtain⟨b,z',l',hb,rfl⟩:=wp_ptr H hl rfl ha
    have hO:=K0.objs m _ hl
    generalize hS:S m=Sm at hO
    cases hO with
    |qnil hb' hz=>rw[hb]at hb';cases hb'
    |arq hb' hg hf htt hbf hz hlen hee hcl hop hc=>
     rename_i Sq f t0 th0 thr cs
     rw[hb]at hb';cases hb'
     have hrd:=rd_of hf htt (cellsOf_get hg)
     have fc:=flatten_cl hcl
     refine⟨.cells agg b (i*z+q) n,by simp[asPtr,hs'],?_⟩
     -- a row that is there as it is
     have row:∀e,i<es.length→e.length=z→apOp es op=es.set i e→wopen agg n q e o c (.rdO m) (fun e'=>.arq z es [(i,e')]) m K→RRes X c ρ F h o (.cells agg b (i*z+q) n) K:=by
      intro e hi he hap hw
      rw[hap]at hc
      obtain⟨S1,S2,S3,v1,v2,v3,rfl,rfl,a1,a2,a3⟩:=rows_split hee hi hc
      have e1:v1.length=i*z:=by
       have h1:=a1.len
       obtain⟨e0,he0⟩:∃e0,es[i]? =some e0:=⟨_,List.getElem?_eq_getElem hi⟩
       have:=(flatten_row hee he0).2
       rw[Nat.add_mul]at this
       rw[←h1,List.length_take];omega
      have e2:v2.length=z:=by rw[←a2.len];exact he
      refine wopen_ok H K0 hw hl (.inr ⟨_,_,hb⟩) (.inl rfl) a2 (fun hn=>rd_row hrd e1 (by simp only[List.length_drop]at hn ⊢;omega)) fun c' ρ' e' S' hm hρ hlen' hCN=>?_
      have:=rows_join hee hi (a1.conv (c':=c') (ρ':=ρ') fun t ht=>fc t (List.mem_of_mem_take ht)) hCN (a3.conv fun t ht=>fc t (List.mem_of_mem_drop (List.mem_of_mem_drop ht)))
      refine⟨_,.arq (hρ.trans hb) hg hf htt hbf hz hlen hee hcl (fun p hp=>?_) this,fun R hR=>?_⟩
      ·simp only[List.mem_singleton]at hp;subst hp;exact⟨hi,by rw[hlen'];exact he⟩
      ·rw[hS]
       refine List.Perm.cons _ ?_
       show List.Perm _ ((S1++(S'++S3))++R)
       rw[List.append_assoc,List.append_assoc]
       refine List.Perm.append_left S1 ((hR.append_right S3).trans ?_)
       rw[List.append_assoc]
       exact List.perm_append_comm.append_left _
     have rest:∀e,(apOp es op)[i]? =some e→(match takeN n (e.drop q)with
      |some l=>(match ofCells agg l,l.all plainC with
       |some v,true=>force v fun v=>K v o c (rdL l (.rdO m))
       |_,_=>False)
      |none=>False)→RRes X c ρ F h o (.cells agg b (i*z+q) n) K:=by
      intro e he2 hw
      split at hw
      ·rename_i l ht
       split at hw
       ·rename_i v hv hpl
        obtain⟨hK,_⟩:=force_iff hw
        rw[takeN_some]at ht
        obtain⟨t1,rfl⟩:=ht
        have hi:i<(apOp es op).length:=(List.getElem?_eq_some_iff.1 he2).1
        obtain⟨hal,hzs⟩:=apOp_len hee hop
        obtain⟨f1,f2⟩:=flatten_row hzs he2
        obtain⟨S1,S2,S3,_,a1,a2,a3⟩:=hc.part (i*z) z
        have e3:((apOp es op).flatten.drop (i*z)).take z=e:=f1
        rw[e3]at a2
        obtain⟨T1,T2,T3,_,b1,b2,b3⟩:=a2.part q n
        obtain⟨hV,_⟩:=b2.vrs (fun t v hv hf=>hv.fzmono hf) hpl
        have hez:=hzs e (List.mem_of_getElem? he2)
        simp only[List.length_drop]at t1
        have e4:(((cs.drop (i*z)).take z).drop q).take n=(cs.drop (i*z+q)).take n:=by
         rw[List.drop_take,List.drop_drop,List.take_take,Nat.min_eq_left (by omega)]
        rw[e4]at hV
        obtain⟨x,h6,h7⟩:=ofCells_rel hv hV
        have hrc:M.readCells h b (i*z+q) n=some ((cs.drop (i*z+q)).take n):=by
         unfold M.readCells
         rw[hrd]
         simp only[Option.bind_some,takeN_some,and_true]
         have h8:=hV.1
         rw[hal]at hi
         have hle:(i+1)*z≤es.length*z:=Nat.mul_le_mul_right z hi
         rw[Nat.add_mul]at hle
         simp only[List.length_drop];omega
        exact RRes.same H (by simp[RQ.run,hrc,h6]) h7 hK (rdL_ok hV fun he'=>.rdO (.refl _) rfl hl (.inr ⟨_,_,hb⟩) ⟨_,hrc,he'⟩)
       ·exact hw.elim
      ·exact hw.elim
     unfold welem at hw
     split at hw
     ·obtain⟨e,he,hw⟩:=hw
      have hi:=(List.getElem?_eq_some_iff.1 he).1
      exact row e hi (hee e (List.mem_of_getElem? he)) (by
       show es=es.set i e
       refine List.ext_getElem? fun k=>?_
       rw[List.getElem?_set]
       by_cases ek:i=k
       ·subst ek;rw[if_pos rfl,if_pos hi,he]
       ·rw[if_neg ek]) hw
     ·rename_i j ej
      obtain⟨o1,o2⟩:=hop (j,ej) (by simp)
      by_cases eij:i=j
      ·subst eij
       exact row ej o1 o2 rfl (hw.1 rfl)
      ·obtain⟨e,he,hw⟩:=hw.2 eij
       exact rest e (by show(es.set j ej)[i]? =some e;rw[List.getElem?_set,if_neg (fun h=>eij h.symm)];exact he) hw
     ·obtain⟨e,he,hw⟩:=hw
      exact rest e he hw
   ·exact hw.elim
  ·exact hw.elim
theorem kcode_inj {kd:TypeDesc} {k:Value} {n:Nat} (hk:kindOk kd k n=true):(∃b,kd= .bool∧k= .bool b∧n=1)∨(∃s,kd= .string∧k= .string s∧n=2)∨(∃i x,kd= .int i∧k= .int i x∧n=kIdx i):=by
 unfold kindOk at hk
 simp only[Bool.and_eq_true,beq_iff,blt_iff]at hk
 obtain⟨⟨h0,h1⟩,h2⟩:=hk
 cases kd<;>simp[kcode]at h1<;>try omega
 ·cases k<;>simp[kcodeV]at h2<;>try omega
  ·exact .inl ⟨_,rfl,rfl,h1.symm⟩
  ·rename_i i x;subst h1;cases i<;>simp[kIdx]at h2
 ·rename_i i
  cases k<;>simp[kcodeV]at h2<;>try omega
  ·subst h1;cases i<;>simp[kIdx]at h2
  ·rename_i j x
   have:i=j:=by subst h1;cases i<;>cases j<;>simp[kIdx]at h2<;>rfl
   subst this
   exact .inr (.inr ⟨_,_,rfl,rfl,h1.symm⟩)
  ·subst h1;cases i<;>simp[kIdx]at h2
 ·cases k<;>simp[kcodeV]at h2<;>try omega
  ·rename_i i x;subst h1;cases i<;>simp[kIdx]at h2
  ·exact .inr (.inl ⟨_,rfl,rfl,h1.symm⟩)
theorem kindOk_scalar {kd:TypeDesc} {k:Value} {n:Nat} (hk:kindOk kd k n=true):scalarT kd=true∧scalar k=true:=by
 rcases kcode_inj hk with⟨_,rfl,rfl,_⟩|⟨_,rfl,rfl,_⟩|⟨_,_,rfl,rfl,_⟩<;>exact⟨rfl,rfl⟩
theorem sameNow_keq {kd:TypeDesc} {k k':Value} {n:Nat} (hk:kindOk kd k n=true) (hk':kcodeV k'=n):Instr.sameNow kd k k'=some (keq k k'):=by
 rcases kcode_inj hk with⟨b,rfl,rfl,rfl⟩|⟨s,rfl,rfl,rfl⟩|⟨i,x,rfl,rfl,rfl⟩
 ·cases k'<;>simp[kcodeV]at hk'
  ·rfl
  ·rename_i j y;cases j<;>simp[kIdx]at hk'
 ·cases k'<;>simp[kcodeV]at hk'
  ·rename_i j y;cases j<;>simp[kIdx]at hk'
  ·rfl
 ·cases k'<;>simp[kcodeV]at hk'<;>try(cases i<;>simp[kIdx]at hk';done)
  rename_i j y
  have:i=j:=by cases i<;>cases j<;>simp[kIdx]at hk'<;>rfl
  subst this
  simp[Instr.sameNow,keq]
def ERs (c:Nat) (ρ:Gh) (F:Nat→Prop) (h:AHeap) (kd:Nat) (es:List (Value×TV)) (es':List MapEntry):Prop:=
 es.length=es'.length∧∀(i:Nat) e e',es[i]? =some e→es'[i]? =some e'→e'.key=e.1∧(0<kd∧kcodeV e.1=kd)∧fzV e.2=true∧VR c ρ F h e.2 e'.val
theorem ERs.inv_cons {kd:Nat} {e:Value×TV} {es:List (Value×TV)} {es':List MapEntry} (H:ERs c ρ F h kd (e::es) es'):∃e' m,es'=e'::m∧e'.key=e.1∧(0<kd∧kcodeV e.1=kd)∧fzV e.2=true∧VR c ρ F h e.2 e'.val∧ERs c ρ F h kd es m:=by
 match es',H with
 |[],H=>have:=H.1;simp at this
 |e'::m,H=>
  obtain⟨h1,h2,h3,h4⟩:=H.2 0 e e' rfl rfl
  exact⟨e',m,rfl,h1,h2,h3,h4,by simpa using H.1,fun i x x' q1 q2=>H.2 (i+1) x x' (by simpa using q1) (by simpa using q2)⟩
theorem ERs.inv_nil {kd:Nat} {es':List MapEntry} (H:ERs c ρ F h kd [] es'):es'=[]:=by have:=H.1;cases es'<;>simp_all
theorem vfindNow_rel {kd:TypeDesc} {k:Value} {n:Nat} (hk:kindOk kd k n=true):∀{es:List (Value×TV)} {es':List MapEntry} (i:Nat),ERs c ρ F h n es es'→
 (match lookM es k with
 |some v=>∃j x,Instr.findNow kd k es' i=some (some (i+j,x))∧VR c ρ F h v x∧fzV v=true∧∃e,es'[j]? =some e∧e.val=x
 |none=>Instr.findNow kd k es' i=some none)
 |[],es',i,H=>by rw[H.inv_nil];rfl
 |e::es,es',i,H=>by
  obtain⟨e',m,rfl,h1,h2,h3,h4,h5⟩:=H.inv_cons
  unfold lookM Instr.findNow
  rw[h1,sameNow_keq hk h2.2]
  cases hq:keq k e.1 with
  |true=>exact⟨0,e'.val,rfl,h4,h3,e',rfl,rfl⟩
  |false=>
   have ih:=vfindNow_rel hk (i+1) h5
   simp only
   split
   ·rename_i v hv
    rw[hv]at ih
    obtain⟨j,x,q1,q2,q3,e2,q4,q5⟩:=ih
    exact⟨j+1,x,by rw[q1];congr 3;omega,q2,q3,e2,by simpa using q4,q5⟩
   ·rename_i hv
    rw[hv]at ih
    exact ih
theorem fz_eqE {t:TV} (hf:fz t=true):eqE t=true:=by
 unfold fz at hf
 split at hf
 ·rename_i v;cases v<;>first|rfl |simp[plainE]at hf
 ·rfl
 ·rfl
 ·rfl
 ·cases hf
theorem fzV_refl {t:TV} {x:Value} (hv:VR c ρ F h t x) (hf:fzV t=true):eqL x x=true:=by
 have one:eqL1 x x=true→eqL x x=true:=fun h=>by
  unfold eqL
  split
  ·simp[eqL1]at h
  ·exact h
 unfold fzV at hf
 split at hf
 ·obtain⟨a,rfl,h1⟩:=hv.inv_agg
  exact eqEs_refl h1 (List.all_eq_true.2 fun t ht=>fz_eqE (List.all_eq_true.1 hf t ht))
 ·exact one (eqE_refl hv (fz_eqE hf))
theorem ERs.refl {kd:Nat}:∀{es:List (Value×TV)} {es':List MapEntry},ERs c ρ F h kd es es'→eqEs es' es'=true
 |[],es',H=>by rw[H.inv_nil];rfl
 |e::es,es',H=>by
  obtain⟨e',m,rfl,h1,h2,h3,h4,h5⟩:=H.inv_cons
  simp only[eqEs,Bool.and_eq_true]
  refine⟨⟨⟨?_,fzV_refl h4 h3⟩,by simp⟩,h5.refl⟩
  rw[h1]
  have:=h2.2
  cases he:e.1<;>rw[he]at this<;>simp[kcodeV]at this<;>try omega
  all_goals simp[eqL,eqL1]
theorem bytes_eq {a b:ByteArray}:(a==b)=true↔a=b:=by
 cases a;cases b
 show(Array.instBEq.beq _ _)=true↔_
 simp
theorem keq_eq {kd:TypeDesc} {k k':Value} {n:Nat} (hk:kindOk kd k n=true) (hk':kcodeV k'=n) (h:keq k k'=true):k=k':=by
 rcases kcode_inj hk with⟨b,rfl,rfl,rfl⟩|⟨s,rfl,rfl,rfl⟩|⟨i,x,rfl,rfl,rfl⟩
 ·cases k'<;>simp[kcodeV]at hk'
  ·simpa[keq]using h
  ·rename_i j y;cases j<;>simp[kIdx]at hk'
 ·cases k'<;>simp[kcodeV]at hk'
  ·rename_i j y;cases j<;>simp[kIdx]at hk'
  ·simp only[keq]at h;rw[bytes_eq.1 h]
 ·cases k'<;>simp[kcodeV]at hk'<;>try(cases i<;>simp[kIdx]at hk';done)
  rename_i j y
  have:i=j:=by cases i<;>cases j<;>simp[kIdx]at hk'<;>rfl
  subst this
  simpa[keq]using h
theorem keq_refl {kd:TypeDesc} {k:Value} {n:Nat} (hk:kindOk kd k n=true):keq k k=true:=by
 rcases kcode_inj hk with⟨b,rfl,rfl,rfl⟩|⟨s,rfl,rfl,rfl⟩|⟨i,x,rfl,rfl,rfl⟩<;>simp[keq,bytes_eq]
theorem keq_cong {a b c:Value} (h:keq a b=true):keq c b=keq c a:=by
 unfold keq at h
 split at h
 ·have:=eq_of_beq h;subst this;cases c<;>rfl
 ·have:=eq_of_beq h;subst this;cases c<;>rfl
 ·have:=bytes_eq.1 h;subst this;cases c<;>rfl
 ·cases h
theorem ENs.find {base:Nat} {kd:TypeDesc} {k:Value} {n:Nat} (hk:kindOk kd k n=true):∀{M:List (Value×TV)} {ev:List MapEntry} {S:Ft} (i:Nat),ENs c ρ F h base n S M ev→
 (match lookM M k with
 |some v=>∃j x S1 S2 S3,Instr.findNow kd k ev i=some (some (i+j,x))∧S=S1++(S2++S3)∧CNs c ρ F h base S2 (cellsT v) x.cells.toList∧isAggT v=isAggV x∧
  ∀c' ρ' v' S2',(∀e∈M,∀t∈cellsT e.2,clT t=true)→CNs c' ρ' F h base S2' (cellsT v') x.cells.toList→isAggT v'=isAggV x→ENs c' ρ' F h base n (S1++(S2'++S3)) (putM M k v') ev
 |none=>Instr.findNow kd k ev i=some none)
 |[],ev,S,i,H=>by cases H;rfl
 |e::es,ev,S,i,H=>by
  cases H with
  |cons hkey hkd ha hv hl=>
   rename_i Sa Sb e' m
   unfold lookM Instr.findNow
   rw[hkey,sameNow_keq hk hkd.2]
   cases hq:keq k e.1 with
   |true=>
    refine⟨0,e'.val,[],Sa,Sb,rfl,rfl,hv,ha,fun c' ρ' v' S2' hcl hv' ha'=>?_⟩
    unfold putM
    rw[hq]
    have:=keq_eq hk hkd.2 hq
    subst this
    have:=ENs.cons (e:=(e.1,v')) hkey hkd ha' hv' (hl.conv (c':=c') (ρ':=ρ') fun e he=>hcl e (List.mem_cons_of_mem _ he))
    exact this
   |false=>
    have ih:=ENs.find hk (i+1) hl
    simp only
    split
    ·rename_i v hv2
     rw[hv2]at ih
     obtain⟨j,x,S1,S2,S3,q1,q2,q3,q4,q5⟩:=ih
     refine⟨j+1,x,Sa++S1,S2,S3,by rw[q1];congr 3;omega,by rw[q2,List.append_assoc],q3,q4,fun c' ρ' v' S2' hcl hv' ha'=>?_⟩
     unfold putM
     rw[hq,List.append_assoc]
     exact .cons hkey hkd ha (hv.conv (hcl e List.mem_cons_self)) (q5 c' ρ' v' S2' (fun e he=>hcl e (List.mem_cons_of_mem _ he)) hv' ha')
    ·rename_i hv2
     rw[hv2]at ih
     exact ih
theorem VR.ofCells {v:TV} {x:Value} (H:VRs c ρ F h (cellsT v) x.cells.toList) (ha:isAggT v=isAggV x):VR c ρ F h v x:=by
 cases v with
 |agg cs=>
  cases x<;>simp[isAggT,isAggV]at ha
  exact .agg_of H
 |_=>
  have hx:x.cells= #[x]:=by cases x<;>first|rfl |simp[isAggT,isAggV]at ha
  rw[hx]at H
  exact H.head
theorem ofCells_cells {b:Bool} {l:List TV} {v:TV} {x:Value} (ho:ofCells b l=some v) (H:VRs c ρ F h l x.cells.toList) (ha:b=isAggV x):cellsT v=l∧isAggT v=b∧VR c ρ F h v x:=by
 unfold ofCells at ho
 split at ho
 ·cases ho
  refine⟨rfl,rfl,?_⟩
  cases x<;>simp[isAggV]at ha
  exact .agg_of H
 ·cases ho
  have hx:x.cells= #[x]:=by cases x<;>first|rfl |simp[isAggV]at ha
  rw[hx]at H
  have hv:=H.head
  have hn:∀cs,v≠ .agg cs:=by
   rintro cs rfl
   obtain⟨a,rfl,_⟩:=hv.inv_agg
   simp[isAggV]at ha
  refine⟨?_,?_,hv⟩
  ·cases v<;>first|rfl |exact absurd rfl (hn _)
  ·cases v<;>first|rfl |exact absurd rfl (hn _)
 ·cases ho
theorem clT_eqL1 {base:Nat} {S:Ft} {t:TV} {x:Value} (H:CR F h base S (.c t x)):eqL1 x x=true:=by
 cases H with
 |fz hf hv=>exact eqE_refl hv (fz_eqE hf)
 |own hl hv=>
  rename_i y l
  cases y with
  |cells cs=>exact eqE_refl hv rfl
  |map kd es=>exact eqE_refl hv rfl
  |maq kd es op=>exact eqE_refl hv rfl
  |arr z w es=>exact eqE_refl hv rfl
  |arq z es op=>exact eqE_refl hv rfl
  |bag ks=>cases hv;simp[eqL1]
theorem CNs.eqLs {base:Nat} {S:Ft} {l:List TV} {m:List Value} (H:CNs c ρ F h base S l m):(∀t∈l,eqE t=true∨clT t=true)→eqLs m m=true:=by
 induction H with
 |nil=>intro _;rfl
 |vr hv _ ih=>
  rename_i t v l m _
  intro hc
  simp only[M.eqLs,Bool.and_eq_true]
  refine⟨?_,ih fun t ht=>hc t (List.mem_cons_of_mem _ ht)⟩
  rcases hc t List.mem_cons_self with h1|h1
  ·exact eqE_refl hv h1
  ·unfold clT at h1
   split at h1
   ·cases hv
   ·exact eqE_refl hv (fz_eqE h1)
 |cl hv _ ih=>
  intro hc
  simp only[M.eqLs,Bool.and_eq_true]
  exact⟨clT_eqL1 hv,ih fun t ht=>hc t (List.mem_cons_of_mem _ ht)⟩
theorem eqL_cells {x:Value} (h:eqLs x.cells.toList x.cells.toList=true):eqL x x=true:=by
 cases x with
 |agg a=>exact h
 |_=>simpa[eqL,eqLs,Value.cells]using h
theorem ENs.refl {base kd:Nat} {S:Ft} {l:List (Value×TV)} {m:List MapEntry} (H:ENs c ρ F h base kd S l m):(∀e∈l,∀t∈cellsT e.2,eqE t=true∨clT t=true)→eqEs m m=true:=by
 induction H with
 |nil=>intro _;rfl
 |cons hk hkd ha hv _ ih=>
  rename_i e e' l m _
  intro hc
  simp only[eqEs,Bool.and_eq_true]
  refine⟨⟨⟨?_,eqL_cells (hv.eqLs (hc _ List.mem_cons_self))⟩,by simp⟩,ih fun e he=>hc e (List.mem_cons_of_mem _ he)⟩
  rw[hk]
  have:=hkd.2
  cases he:e.1<;>rw[he]at this<;>simp[kcodeV]at this<;>try omega
  all_goals simp[eqL,eqL1]
theorem lookM_put {k k':Value} {v:TV} (hne:keq k k'=false):∀{es:List (Value×TV)},lookM (putM es k' v) k=lookM es k
 |[]=>by simp[putM,lookM,hne]
 |e::es=>by
  unfold putM
  cases hq:keq k' e.1 with
  |true=>
   have h2:keq k e.1=false:=(keq_cong hq).trans hne
   simp[lookM,hne,h2]
  |false=>
   simp only[lookM]
   rw[lookM_put hne]
theorem ENs.kinds {base kd:Nat} {S:Ft} {l:List (Value×TV)} {m:List MapEntry} (H:ENs c ρ F h base kd S l m):∀e∈l,kcodeV e.1=kd:=by
 induction H with
 |nil=>simp
 |cons hk hkd ha hv _ ih=>
  intro e he
  rcases List.mem_cons.1 he with rfl |he
  ·exact hkd.2
  ·exact ih e he
theorem putM_has {k:Value} {v:TV}:∀{es:List (Value×TV)},(k,v)∈putM es k v
 |[]=>by simp[putM]
 |e::es=>by
  unfold putM
  cases keq k e.1 with
  |true=>simp
  |false=>exact List.mem_cons_of_mem _ putM_has
theorem lookM_self {kd:TypeDesc} {k:Value} {n:Nat} {v:TV} (hk:kindOk kd k n=true):∀{es:List (Value×TV)},lookM (putM es k v) k=some v
 |[]=>by simp[putM,lookM,keq_refl hk]
 |e::es=>by
  unfold putM
  cases hq:keq k e.1 with
  |true=>simp[lookM,keq_refl hk]
  |false=>simp[lookM,hq,lookM_self hk]
theorem wopenV_ok (H:Mem X ρ F o c h) {S:Nat→Ft} (K0:MO X ρ F o c h S) {v:TV} {x y:Value} {m b:Nat} {yo:TO} {S1 S2 S3:Ft} {put:TV→TO} {q:RQ} {wrap:TV→TV} (hw:wopenV v o c (.rdO m) put m fun v o c lg=>K (wrap v) o c lg)
 (hl:look o m=some yo) (hS:S m=(b,true)::(S1++(S2++S3))) (hc:CNs c ρ F h X.base S2 (cellsT v) x.cells.toList) (ha:isAggT v=isAggV x) (hrun:q.run h=some y) (hwr:∀c ρ v,VR c ρ F h v x→VR c ρ F h (wrap v) y)
 (hlog:LogOk ρ F o h ρ o h (.rdO m) (.rd q h))
 (hput:∀c' ρ' v',ρ' m=ρ m→CNs c' ρ' F h X.base [] (cellsT v') x.cells.toList→isAggT v'=isAggV x→OR c' ρ' F h X.base m ((b,true)::(S1++S3)) (put v')):
 RRes X c ρ F h o q K:=by
 unfold wopenV at hw
 split at hw
 ·rename_i hn0
  obtain⟨Ss,ls,b1,b2,b3⟩:=hc.opened c
  have hl0:ls.length=0:=by rw[b2.l2,hn0];rfl
  have hV:=b3 c ρ (fun _ _ h=>h) (by omega) (fun i q hq=>by
   have:=(List.getElem?_eq_some_iff.1 hq).1;omega)
  rw[openL_nil hn0]at hV
  exact RRes.same H hrun (hwr _ _ _ (VR.ofCells hV ha)) hw hlog
 ·rename_i q0 new hn0
  split at hw
  ·rename_i v' hv
   have hA:∀ls:List Loc,∀t v,VR c ρ F h t v→VR (c+(new.length+1)) (addG ρ c ls) F h t v:=fun ls t v=>VR.mono (by omega) (fun n l hn h1=>by rwa [addG_old _ _ hn]at h1) (fun n b h1=>by rw[addG_old _ _ (H.names _ _ h1)];exact h1) (fun _ h=>h) (fun _ _ _ h=>h)
   obtain⟨Ss,ls,b1,b2,b3⟩:=hc.opened c
   rw[hn0]at b2
   have hl1:ls.length=new.length+1:=b2.l2
   have hV:=b3 (c+(new.length+1)) (addG ρ c ls) (hA ls) (by omega) (fun i q hq=>by rw[addG_new];exact hq)
   obtain⟨e1,e2,e3⟩:=ofCells_cells hv hV ha
   have hperm:(S m).Perm (((b,true)::(S1++S3))++Ss.flatten):=by
    rw[hS,←b1]
    refine List.Perm.cons _ ?_
    show List.Perm _ ((S1++S3)++S2)
    rw[List.append_assoc]
    exact List.perm_append_comm.append_left _
   obtain⟨M,hk⟩:=H.opens K0 (y1:=put v') hl b2 hperm (fun _=>hput _ _ v' (addG_old _ _ (H.lt hl)) (by rw[e1];exact CNs.ofVRs hV) (e2.trans ha))
   cases hlog with
   |rdO hr hh hl2 hb2 hn2=>
    refine⟨_,_,_,_,_,_,hrun,⟨M,hk,Nat.le_refl _,fun _ h=>h,fun _ _ _ h=>h⟩,hwr _ _ _ e3,hw,.rdO (fun n' y' hl' _=>⟨?_,addG_old _ _ (H.lt hl'),fun b _=>⟨rfl,fun _ h=>h⟩⟩) rfl hl hb2 hn2⟩
    rw[look_append,look_news b2,if_pos (H.lt hl')]
    simp only
    rw[look_upd1]
    by_cases em:n'=m
    ·rw[if_pos em,hl];exact⟨_,rfl⟩
    ·rw[if_neg em];exact⟨_,hl'⟩
  ·exact hw.elim
theorem wlookup_ok (L:EnvLe T E) (H:Mem X ρ F o c h) {t:TypeId} {m k:TV} {ok:Bool} {mv kv:Value} (hw:wlookup T t m k ok o c K) (hm:VR c ρ F h m mv) (hk:VR c ρ F h k kv):
 (mv= .map none∧PRes c ρ F h o ((E.desc t).bind fun d=>(match(generalizing:=false) d,mv with
  | .map kt elem,.map none=>(E.desc kt).bind fun kd=>(E.zero elem).bind fun z=>grd (scalarT kd&&scalar kv&&plainV z) (some (bif ok then .tuple #[z,.bool false]else z))
  |_,_=>none)) K)∨
 (∃r,mv= .map (some r)∧∃q,((E.desc t).bind fun d=>(match(generalizing:=false) d,mv with
  | .map kt elem,.map (some r)=>(E.desc kt).bind fun kd=>(E.zero elem).bind fun z=>grd (scalarT kd&&scalar kv&&plainV z) (some (RQ.look r kd kv z ok))
  |_,_=>none))=some q∧RRes X c ρ F h o q K):=by
 unfold wlookup at hw
 split at hw
 ·rename_i kt elem hd
  split at hw
  ·rename_i kd z kv' hkd hz
   obtain⟨hz',hpl⟩:=L.zero _ _ hz
   rw[hk.inv_s.1]
   have hq:∀b,kindOk kd kv' (kcode kd)=true→((E.desc t).bind fun d=>(match(generalizing:=false) d,Value.map (some b)with
    | .map kt elem,.map (some r)=>(E.desc kt).bind fun kd=>(E.zero elem).bind fun z=>grd (scalarT kd&&scalar kv'&&plainV z) (some (RQ.look r kd kv' z ok))
    |_,_=>none))=some (RQ.look b kd kv' z ok):=by
    intro b hko
    obtain⟨hs1,hs2⟩:=kindOk_scalar hko
    rw[L.desc _ _ hd]
    simp only[Option.bind_some,L.desc _ _ hkd,hz',hs1,hs2,hpl,Bool.and_self,grd]
   have hkk:∀{n},kindOk kd kv' n=true→kindOk kd kv' (kcode kd)=true:=fun {n} h=>by
    have h0:=h
    unfold kindOk at h0 ⊢
    simp only[Bool.and_eq_true,beq_iff]at h0 ⊢
    obtain⟨⟨q1,q2⟩,q3⟩:=h0
    subst q2
    exact⟨⟨q1,trivial⟩,q3⟩
   split at hw
   ·rename_i n
    right
    split at hw
    ·rename_i kn es hl
     split at hw
     ·rename_i hko
      obtain⟨r,hr,hw⟩:=hw
      obtain⟨Sm,hO⟩:=H.objs hl
      cases hO with
      |map hb hg hlen hc hst=>
       rename_i b clock es'
       have hE:ERs c ρ F h kn es es':=⟨hlen,hc⟩
       cases hm with
       |mp hb'=>
        rw[hb]at hb';cases hb'
        refine⟨b,rfl,_,hq b (hkk hko),?_⟩
        have hma:mapAt h b=some (es',clock):=by unfold mapAt;rw[hg]
        have hlog:LogOk ρ F o h ρ o h (.rdO n) (.rd (RQ.look b kd kv' z ok) h):=.rdO (.refl _) rfl hl (.inl hb) ⟨_,hma,hE.refl⟩
        have hf:=vfindNow_rel hko 0 hE
        rw[hr]at hf
        cases r with
        |some v=>
         obtain⟨j,x,q1,q2,_⟩:=hf
         simp only at hw
         cases ok with
         |true=>exact RRes.same H (by simp[RQ.run,hma,lookIn,q1]) (.tup_of (.cons q2 (.cons (.s rfl) .nil))) hw hlog
         |false=>exact RRes.same H (by simp[RQ.run,hma,lookIn,q1]) q2 hw hlog
        |none=>
         simp only at hw hf
         cases ok with
         |true=>exact RRes.same H (by simp[RQ.run,hma,lookIn,hf]) (.tup_of (.cons (cT_rel hpl) (.cons (.s rfl) .nil))) hw hlog
         |false=>exact RRes.same H (by simp[RQ.run,hma,lookIn,hf]) (cT_rel hpl) hw hlog
     ·exact hw.elim
    ·rename_i kn es op hl
     split at hw
     ·rename_i hko
      obtain⟨S,K0⟩:=H.ex
      have hO:=K0.objs n _ hl
      generalize hS:S n=Sm at hO
      cases hO with
      |maq hb hg hcl hc hst=>
       rename_i Sq b clock ev
       cases hm with
       |mp hb'=>
        rw[hb]at hb';cases hb'
        refine⟨b,rfl,_,hq b (hkk hko),?_⟩
        have hma:mapAt h b=some (ev,clock):=by unfold mapAt;rw[hg]
        have miss:∀{M:List (Value×TV)} {S0:Ft} {lg:VL},ENs c ρ F h X.base kn S0 M ev→lookM M kv'=none→LogOk ρ F o h ρ o h lg (.rd (RQ.look b kd kv' z ok) h)→K (okT ok (cT z) false) o c lg→RRes X c ρ F h o (RQ.look b kd kv' z ok) K:=by
         intro M S0 lg hE hno hlog hw
         have hf:=hE.find hko 0
         rw[hno]at hf
         simp only at hf
         cases ok with
         |true=>exact RRes.same H (by simp[RQ.run,hma,lookIn,hf]) (.tup_of (.cons (cT_rel hpl) (.cons (.s rfl) .nil))) hw hlog
         |false=>exact RRes.same H (by simp[RQ.run,hma,lookIn,hf]) (cT_rel hpl) hw hlog
        have met:∀{M:List (Value×TV)} {S0:Ft} {lg:VL} {v:TV},ENs c ρ F h X.base kn S0 M ev→lookM M kv'=some v→(cellsT v).all plainC=true→LogOk ρ F o h ρ o h lg (.rd (RQ.look b kd kv' z ok) h)→K (okT ok v true) o c lg→RRes X c ρ F h o (RQ.look b kd kv' z ok) K:=by
         intro M S0 lg v hE hv hp hlog hw
         have hf:=hE.find hko 0
         rw[hv]at hf
         obtain⟨j,x,S1,S2,S3,q1,q2,q3,q4,_⟩:=hf
         obtain⟨hV,_⟩:=q3.vrs (fun t v hv hf=>hv.fzmono hf) hp
         have hx:=VR.ofCells hV q4
         cases ok with
         |true=>exact RRes.same H (by simp[RQ.run,hma,lookIn,q1]) (.tup_of (.cons hx (.cons (.s rfl) .nil))) hw hlog
         |false=>exact RRes.same H (by simp[RQ.run,hma,lookIn,q1]) hx hw hlog
        split at hw
        ·obtain⟨r,hr,hw⟩:=hw
         have hE:ENs c ρ F h X.base kn Sq es ev:=hc
         have hlog:LogOk ρ F o h ρ o h (.rdO n) (.rd (RQ.look b kd kv' z ok) h):=.rdO (.refl _) rfl hl (.inl hb) ⟨_,hma,hE.refl fun e he t ht=>.inr (hcl e he t ht)⟩
         cases r with
         |none=>simp only at hw;exact miss hE hr hlog hw
         |some v=>
          simp only at hw
          have hf:=hE.find hko 0
          rw[hr]at hf
          obtain⟨j,x,S1,S2,S3,q1,q2,q3,q4,q5⟩:=hf
          refine wopenV_ok H K0 (x:=x) (y:=bif ok then .tuple #[x,.bool true]else x) (wrap:=fun v=>okT ok v true) hw hl (by rw[hS,q2]) q3 q4 (by simp[RQ.run,hma,lookIn,q1]) (fun c ρ v hv=>?_) hlog fun c' ρ' v' hρ hv' ha'=>?_
          ·cases ok with
           |true=>exact .tup_of (.cons hv (.cons (.s rfl) .nil))
           |false=>exact hv
          ·exact .maq (hρ.trans hb) hg hcl (q5 c' ρ' v' [] hcl hv' ha') hst
        ·rename_i k' w
         obtain⟨hw1,hw2⟩:=hw
         have hE:ENs c ρ F h X.base kn Sq (putM es k' w) ev:=hc
         have hlog:LogOk ρ F o h ρ o h (rdL (cellsT w) (.rdO n)) (.rd (RQ.look b kd kv' z ok) h):=by
          unfold rdL
          split
          ·rename_i he
           refine .rdO (.refl _) rfl hl (.inl hb) ⟨_,hma,hE.refl fun e he' t ht=>?_⟩
           rcases putM_mem he' with rfl |h1
           ·exact .inl (List.all_eq_true.1 he t ht)
           ·exact .inr (hcl e h1 t ht)
          ·exact .bad
         by_cases ek:kv'=k'
         ·subst ek
          have hv:=lookM_self (v:=w) (es:=es) hko
          have hf:=hE.find hko 0
          rw[hv]at hf
          obtain⟨j,x,S1,S2,S3,q1,q2,q3,q4,_⟩:=hf
          exact met hE hv (hw1 rfl).1 hlog (hw1 rfl).2
         ·obtain⟨r,hr,hw⟩:=hw2 ek
          have hne:keq kv' k'=false:=by
           cases hq:keq kv' k' with
           |false=>rfl
           |true=>exact absurd (keq_eq hko (hE.kinds _ putM_has) hq) ek
          have:=lookM_put (v:=w) (es:=es) hne
          cases r with
          |none=>simp only at hw;exact miss hE (this.trans hr) hlog hw
          |some v=>simp only at hw;exact met hE (this.trans hr) hw.1 hlog hw.2
        ·exact hw.elim
     ·exact hw.elim
    ·exact hw.elim
   ·left
    split at hw
    ·rename_i hko
     obtain⟨hs1,hs2⟩:=kindOk_scalar hko
     have hmv:=hm.inv_s.1
     subst hmv
     refine⟨rfl,?_⟩
     have hq:∀y:Value,(bif ok then Value.tuple #[z,.bool false]else z)=y→((E.desc t).bind fun d=>(match d,Value.map none with
            | .map kt elem,.map none=>(E.desc kt).bind fun kd=>(E.zero elem).bind fun z=>grd (scalarT kd&&scalar kv'&&plainV z) (some (bif ok then .tuple #[z,.bool false]else z))
            |_,_=>none))=some y:=by
      rintro y rfl
      rw[L.desc _ _ hd]
      simp only[Option.bind_some,L.desc _ _ hkd,hz',hs1,hs2,hpl,Bool.and_self,grd]
     cases ok with
     |true=>exact⟨_,_,hq _ rfl,.tup_of (.cons (cT_rel hpl) (.cons (.s rfl) .nil)),hw⟩
     |false=>exact⟨_,_,hq _ rfl,cT_rel hpl,hw⟩
    ·exact hw.elim
   ·exact hw.elim
  ·exact hw.elim
 ·exact hw.elim
end
end Go.M
namespace Go.M
open Go
section
variable {T E:Env} {X:Cx} {ρ:Gh} {F:Nat→Prop} {o:Ob} {c:Nat} {af:AF} {f:Fr} {h:AHeap} {p:Oper} {K:OK}
def esA:Option TO→Option (Nat×List (List TV))
 |some (.arr z _ es)=>some (z,es)
 |_=>none
theorem esA_shareO (o:Ob) (m n:Nat):esA (look (shareO o m) n)=esA (look o n):=by
 cases hm:look o m with
 |none=>unfold shareO;rw[hm]
 |some y=>
  cases y with
  |arr z w es=>
   unfold shareO;rw[hm]
   simp only
   rw[look_upd1]
   by_cases e:n=m
   ·subst e;rw[if_pos rfl,hm];rfl
   ·rw[if_neg e]
  |_=>unfold shareO;rw[hm]
theorem frz_tk (o:Ob) (n:Nat):frz o (.tk n)=(esA (look o n)).map fun p=>.sl p.1 p.2 false:=by
 show(match look o n with|some (.arr z _ es)=>some (TV.sl z es false)|_=>none)=_
 cases look o n with
 |none=>rfl
 |some y=>cases y<;>rfl
theorem frz_shareO (o:Ob) (m:Nat) (t:TV):frz (shareO o m) t=frz o t:=by
 cases t with
 |tk n=>rw[frz_tk,frz_tk,esA_shareO]
 |ifc t v=>cases v<;>try rfl
           rename_i w;cases w<;>rfl
 |clo g a k=>cases a<;>cases k<;>rfl
 |_=>rfl
theorem frz_share1 (o:Ob) (v t:TV):frz (share1 o v) t=frz o t:=by
 cases v<;>try rfl
 exact frz_shareO _ _ _
theorem frzs_share1 (o:Ob) (v:TV):∀l,frzs (share1 o v) l=frzs o l
 |[]=>rfl
 |t::l=>by simp only[frzs,frz_share1,frzs_share1 o v l]
theorem frz_fz {t t':TV} (hf:frz o t=some t'):fz t'=true:=by
 unfold frz at hf
 split at hf
 ·split at hf
  ·rename_i hp;cases hf;exact hp
  ·cases hf
 ·cases hf;rfl
 ·split at hf
  ·cases hf;rfl
  ·cases hf
 ·cases hf;rfl
 ·cases hf;rfl
 ·cases hf
theorem frzs_fz:∀{l l':List TV},frzs o l=some l'→(∀t∈l',fz t=true)∧l'.length=l.length
 |[],l',hf=>by simp[frzs]at hf;subst hf;exact⟨by simp,rfl⟩
 |t::l,l',hf=>by
  unfold frzs at hf
  split at hf
  ·rename_i v' hv
   split at hf
   ·rename_i l2 hl
    cases hf
    obtain⟨h1,h2⟩:=frzs_fz hl
    refine⟨fun t ht=>?_,by simp[h2]⟩
    rcases List.mem_cons.1 ht with rfl |ht
    ·exact frz_fz hv
    ·exact h1 t ht
   ·cases hf
  ·cases hf
structure ShOk (X:Cx) (ρ:Gh) (c:Nat) (h:AHeap) (F:Nat→Prop) (o:Ob) (F':Nat→Prop) (o':Ob):Prop where
 mem:Mem X ρ F' o' c h
 keep:∀t x,VR c ρ F h t x→VR c ρ F' h t x
 FF:∀b,F b→F' b
 wk:∀n y,look o n=some y→∃y',look o' n=some y'∧weak y y'
theorem ShOk.refl (H:Mem X ρ F o c h):ShOk X ρ c h F o F o:=⟨H,fun _ _ h=>h,fun _ h=>h,fun _ y hl=>⟨y,hl,weak.refl y⟩⟩
theorem ShOk.trans {F1 F2:Nat→Prop} {o1 o2:Ob} (A:ShOk X ρ c h F o F1 o1) (B:ShOk X ρ c h F1 o1 F2 o2):ShOk X ρ c h F o F2 o2:=
 ⟨B.mem,fun t x hx=>B.keep t x (A.keep t x hx),fun b hb=>B.FF b (A.FF b hb),fun n y hl=>by
  obtain⟨y1,h1,h2⟩:=A.wk n y hl
  obtain⟨y2,h3,h4⟩:=B.wk n y1 h1
  exact⟨y2,h3,h2.trans h4⟩⟩
theorem share1_ok (H:Mem X ρ F o c h) (v:TV):∃F',ShOk X ρ c h F o F' (share1 o v)∧∀v' x,frz o v=some v'→VR c ρ F h v x→VR c ρ F' h v' x:=by
 cases v with
 |tk n=>
  obtain⟨F',h1,h2,h3,h4⟩:=H.share n
  refine⟨F',⟨h1,h2,h3,weak_shareO o n⟩,fun v' x hf hx=>?_⟩
  unfold frz at hf
  simp only at hf
  split at hf
  ·rename_i z w es hl;cases hf;exact h4 _ _ _ _ hl hx
  ·cases hf
 |sl z es fl=>
  refine⟨F,.refl H,fun v' x hf hx=>?_⟩
  simp only[frz,Option.some.injEq]at hf
  subst hf
  cases hx with
  |nil he=>exact .nil he
  |sl h1 h2 h3 h4 h5 h6 h7 h8 h9 h10=>exact .sl h1 h2 h3 h4 h5 (fun h=>by cases h) h7 h8 h9 h10
 |s w=>
  refine⟨F,.refl H,fun v' x hf hx=>?_⟩
  unfold frz at hf
  simp only at hf
  split at hf
  ·cases hf;exact hx
  ·cases hf
 |ifc t w=>
  refine⟨F,.refl H,fun v' x hf hx=>?_⟩
  unfold frz at hf
  split at hf<;>simp_all
  all_goals(first|(obtain⟨rfl,rfl⟩:= ‹_∧_›;subst hf;exact hx)|skip)
 |clo g a k=>
  refine⟨F,.refl H,fun v' x hf hx=>?_⟩
  unfold frz at hf
  split at hf<;>simp_all
  all_goals(first|(obtain⟨rfl,rfl,rfl⟩:= ‹_∧_∧_›;subst hf;exact hx)|skip)
 |_=>exact⟨F,.refl H,fun v' x hf hx=>by simp[frz]at hf⟩
theorem shares_ok:∀(l:List TV) {F:Nat→Prop} {o:Ob},Mem X ρ F o c h→∃F',ShOk X ρ c h F o F' (shares o l)∧∀l' m,frzs o l=some l'→VRs c ρ F h l m→VRs c ρ F' h l' m
 |[],F,o,H=>⟨F,.refl H,fun l' m hf hm=>by simp[frzs]at hf;subst hf;exact hm⟩
 |v::l,F,o,H=>by
  obtain⟨F1,A,a⟩:=share1_ok H v
  obtain⟨F2,B,b⟩:=shares_ok l A.mem
  refine⟨F2,A.trans B,fun l' m hf hm=>?_⟩
  unfold frzs at hf
  split at hf
  ·rename_i v' hv
   split at hf
   ·rename_i l2 hl
    cases hf
    obtain⟨x,m',rfl,h1,h2⟩:=hm.inv_cons
    exact .cons (B.keep _ _ (a v' x hv h1)) (b l2 m' (by rw[frzs_share1];exact hl) (h2.mono' A.keep))
   ·cases hf
  ·cases hf
theorem frzV_ok (H:Mem X ρ F o c h) (v:TV) (ho:okV v=true):∃F',ShOk X ρ c h F o F' (shares o (cellsT v))∧∀v' x,frzV o v=some v'→VR c ρ F h v x→VR c ρ F' h v' x∧fzV v'=true:=by
 obtain⟨F',A,a⟩:=shares_ok (cellsT v) H
 refine⟨F',A,fun v' x hf hx=>?_⟩
 have one:(∀cs,v≠ .agg cs)→VR c ρ F' h v' x∧fzV v'=true:=fun hna=>by
  have hv1:cellsT v=[v]:=by cases v<;>first|rfl |exact absurd rfl (hna _)
  have hv2:frzV o v=frz o v:=by cases v<;>first|rfl |exact absurd rfl (hna _)
  rw[hv2]at hf
  have hfz:=frz_fz hf
  rw[hv1]at a
  have:=a [v'] [x] (by simp[frzs,hf]) (.cons hx .nil)
  refine⟨this.head,?_⟩
  cases v'<;>simp[fz]at hfz<;>simp[fzV,fz,hfz]
 cases v with
 |agg cs=>
  obtain⟨q,rfl,h1⟩:=hx.inv_agg
  simp only[frzV]at hf
  split at hf
  ·rename_i cs' hc
   cases hf
   refine⟨.agg_of (a cs' q.toList hc h1),?_⟩
   simp only[fzV]
   exact List.all_eq_true.2 (frzs_fz hc).1
  ·cases hf
 |_=>exact one (by intro cs e;cases e)
theorem Mem.atB_hd (H:Mem X ρ F o c h) {S:Nat→Ft} (K:MO X ρ F o c h S) {n b:Nat} {y:TO} (hl:look o n=some y) (hb:atB ρ n b):b<h.size∧hd h b∈hds (S n):=by
 rcases(K.objs n y hl).block with⟨b',o',h1,h2,h3,h4⟩|⟨b',z,len,cs,f,t0,th0,c0,t1,th1,h1,h2,h3,h4⟩|⟨z,h1⟩
 ·rcases hb with hb|⟨z,l,hb⟩<;>rw[h1]at hb<;>cases hb
  exact⟨H.wf.lt h2,by rw[h3];exact h4⟩
 ·rcases hb with hb|⟨z,l,hb⟩<;>rw[h1]at hb<;>cases hb
  exact⟨H.wf.lt h2,by rw[hd_get h2];exact h4⟩
 ·rcases hb with hb|⟨z,l,hb⟩<;>rw[h1]at hb<;>cases hb
theorem Mem.atB_lt (H:Mem X ρ F o c h) {n b:Nat} {y:TO} (hl:look o n=some y) (hb:atB ρ n b):b<h.size:=by
 obtain⟨S,K⟩:=H.ex
 exact(H.atB_hd K hl hb).1
theorem Did.alloc {F1:Nat→Prop} {o1:Ob} (H:Mem X ρ F o c h) (S:ShOk X ρ c h F o F1 o1) {md:Made} {hd:Hold} {y:TO} {l:Loc} {v:TV} (hp:apure E af p=none) (hq:aread E af p=none) (ha:aalloc E af p=some (md,hd))
 (hM:Mem X (updG ρ c (some l)) F1 ((c,y)::o1) (c+1) (h.push (md.obj h.size))) (hk:∀t x,VR c ρ F1 h t x→VR (c+1) (updG ρ c (some l)) F1 (h.push (md.obj h.size)) t x)
 (hv:VR (c+1) (updG ρ c (some l)) F1 (h.push (md.obj h.size)) v (hd.val h.size)) (hK:K v ((c,y)::o1) (c+1) .alloc):Did E X ρ F o c af h p K:=by
 refine⟨0,⟨hd.val h.size,h.push (md.obj h.size),.alloc h (h.push (md.obj h.size))⟩,v,_,_,_,F1,.alloc,fun n _=>?_,hK,⟨hM,fun t x hx=>hk t x (S.keep t x hx),by rw[AHeap.size_push];omega,S.FF,fun b cs hb hr=>by rw[rd_push H.wf.le _ (H.Flt hb)];exact hr⟩,hv,
  .alloc fun n y' hl _=>⟨?_,?_,fun b hb=>?_⟩⟩
 ·unfold runOp;rw[hp,hq,ha]
 ·have:=H.lt hl
  rw[look_cons,if_neg (by omega)]
  obtain⟨y2,q1,_⟩:=S.wk n y' hl
  exact⟨y2,q1⟩
 ·have:=H.lt hl
  rw[updG_ne _ _ (by omega)]
 ·have:=H.atB_lt hl hb
  exact⟨by rw[AHeap.get_push,if_neg (by omega)],fun cs hr=>by rw[rd_push H.wf.le _ this];exact hr⟩
end
end Go.M
namespace Go.M
open Go
section
variable {T E:Env} {X:Cx} {ρ:Gh} {F:Nat→Prop} {o:Ob} {c:Nat} {af:AF} {f:Fr} {h:AHeap} {p:Oper} {K:OK}
theorem cells_did (H:Mem X ρ F o c h) {cs:List TV} {cv:List Value} (hc:VRs c ρ F h cs cv) (hp:apure E af p=none) (hq:aread E af p=none) (ha:aalloc E af p=some (.cells cv,.ptr)) (hK:K (.ptr c 0) ((c,.cells cs)::o) (c+1) .alloc):Did E X ρ F o c af h p K:=by
 obtain⟨h1,h2⟩:=H.newCells hc
 exact Did.alloc H (.refl H) (md:=.cells cv) (hd:=.ptr) hp hq ha h1 h2 (.ptr (updG_self _ _ _)) hK
theorem map_did (H:Mem X ρ F o c h) (kd:Nat) (hp:apure E af p=none) (hq:aread E af p=none) (ha:aalloc E af p=some (.map,.map)) (hK:K (.mp c) ((c,.map kd [])::o) (c+1) .alloc):Did E X ρ F o c af h p K:=by
 obtain⟨h1,h2⟩:=H.newMap kd
 exact Did.alloc H (.refl H) (md:=.map) (hd:=.map) hp hq ha h1 h2 (.mp (updG_self _ _ _)) hK
theorem arr_did {F1:Nat→Prop} {o1:Ob} (H:Mem X ρ F o c h) (S:ShOk X ρ c h F o F1 o1) {z cap:Nat} {es:List (List TV)} {cv:List Value} (hE:ER c ρ F1 h z es cv) (hz:0<z) (hcap:es.length≤cap)
 (hp:apure E af p=none) (hq:aread E af p=none) (ha:aalloc E af p=some (.cells cv,.slice z es.length cap)) (hK:K (.tk c) ((c,.arr z true es)::o1) (c+1) .alloc):Did E X ρ F o c af h p K:=by
 obtain⟨h1,h2⟩:=S.mem.newArr hE hz
 refine Did.alloc H S (md:=.cells cv) (hd:=.slice z es.length cap) hp hq ha h1 h2 (.tk (by omega) rfl (fun b z' len hx=>?_) (fun z' hx=>?_)) hK
 ·rw[updG_self]at hx;cases hx;exact⟨cap,hcap,rfl⟩
 ·rw[updG_self]at hx;cases hx
theorem ER.replicate {z:Nat} {zs:List TV} {zv:List Value} (hz:VRs c ρ F h zs zv) (hl:zs.length=z) (hf:zs.all M.fz=true):∀k,ER c ρ F h z (List.replicate k zs) (repeatL zv k)
 |0=>.nil z
 |k+1=>by
  have ih:=ER.replicate hz hl hf k
  have h1:ER c ρ F h z [zs] zv:=by
   refine⟨by rw[←hz.1,hl];simp,fun e he=>by simp at he;subst he;exact hl,fun e he t ht=>by simp at he;subst he;exact List.all_eq_true.1 hf t ht,fun i j e t v q1 q2 q3=>?_⟩
   cases i with
   |zero=>simp at q1;subst q1;exact hz.2 j t v q2 (by simpa using q3)
   |succ i=>simp at q1
  exact h1.append ih
theorem setN_ex {α:Type}:∀{n:Nat} {l xs:List α},n+xs.length≤l.length→∃r,setN l n xs=some r
 |0,l,[],_=>⟨l,by simp[setN]⟩
 |0,[],x::xs,h=>by simp at h
 |0,y::l,x::xs,h=>by
  obtain⟨r,hr⟩:=setN_ex (n:=0) (l:=l) (xs:=xs) (by simp at h ⊢;omega)
  exact⟨x::r,by simp[setN,hr]⟩
 |n+1,[],xs,h=>by simp at h
 |n+1,y::l,xs,h=>by
  obtain⟨r,hr⟩:=setN_ex (n:=n) (l:=l) (xs:=xs) (by simp at h ⊢;omega)
  exact⟨y::r,by simp[setN,hr]⟩
theorem setAt_some {α:Type}:∀{l r:List α} {n:Nat} {x:α},setAt l n x=some r→n<l.length∧r.length=l.length∧∀i,r[i]? =if i=n then some x else l[i]?
 |[],r,n,x,h=>by simp[setAt]at h
 |y::l,r,0,x,h=>by
  simp[setAt]at h;subst h
  refine⟨by simp,by simp,fun i=>?_⟩
  cases i<;>simp
 |y::l,r,n+1,x,h=>by
  unfold setAt at h
  split at h
  ·rename_i l' hl
   cases h
   obtain⟨h1,h2,h3⟩:=setAt_some hl
   refine⟨by simp;omega,by simp[h2],fun i=>?_⟩
   cases i with
   |zero=>simp
   |succ i=>simp[h3 i]
  ·cases h
theorem ER.setAt {z:Nat} {es es':List (List TV)} {cs:List Value} {l:List TV} {i:Nat} (A:ER c ρ F h z es cs) (hs:∀j,es'[j]? =if j=i then some l else es[j]?) (hlen:es'.length=es.length) (hi:i<es.length) (hl:l.length=z) (hf:∀t∈l,M.fz t=true)
 {cs':List Value} (hc:cs'.length=cs.length) (hin:∀j t v,l[j]? =some t→cs'[i*z+j]? =some v→VR c ρ F h t v) (hout:∀k,(k<i*z∨(i+1)*z≤k)→cs'[k]? =cs[k]?):ER c ρ F h z es' cs':=by
 have key:∀j e,es'[j]? =some e→(j=i∧e=l)∨(j≠i∧es[j]? =some e):=fun j e he=>by
  rw[hs]at he
  by_cases e1:j=i
  ·rw[if_pos e1]at he;cases he;exact .inl ⟨e1,rfl⟩
  ·rw[if_neg e1]at he;exact .inr ⟨e1,he⟩
 refine⟨by rw[hc,hlen,A.len],fun e he=>?_,fun e he=>?_,fun j k e t v q1 q2 q3=>?_⟩
 ·obtain⟨j,hj⟩:=List.getElem?_of_mem he
  rcases key j e hj with⟨_,rfl⟩|⟨_,h1⟩
  ·exact hl
  ·exact A.each e (List.mem_of_getElem? h1)
 ·obtain⟨j,hj⟩:=List.getElem?_of_mem he
  rcases key j e hj with⟨_,rfl⟩|⟨_,h1⟩
  ·exact hf
  ·exact A.fz e (List.mem_of_getElem? h1)
 ·rcases key j e q1 with⟨rfl,rfl⟩|⟨h1,h2⟩
  ·exact hin k t v q2 q3
  ·have hk:k<z:=by rw[←A.each e (List.mem_of_getElem? h2)];exact(List.getElem?_eq_some_iff.1 q2).1
   refine A.cell j k e t v h2 q2 ?_
   rw[←q3]
   refine(hout _ ?_).symm
   rcases Nat.lt_or_gt_of_ne h1 with h3|h3
   ·left
    have:(j+1)*z≤i*z:=Nat.mul_le_mul_right z h3
    rw[Nat.add_mul]at this;omega
   ·right
    have:(i+1)*z≤j*z:=Nat.mul_le_mul_right z h3
    omega
theorem fillS_rel {n:Nat}:∀{ps:List (Nat×TV)} {o:Ob} {F:Nat→Prop} {es es':List (List TV)} {cs:List Value} {pv:List (Nat×Value)},Mem X ρ F o c h→fillS o n es ps=some es'→ER c ρ F h n es cs→PRs c ρ F h ps pv→
 ∃F' cv,ShOk X ρ c h F o F' (sharesP o ps)∧fillA (fun i=>some (i*n,n)) cs pv=some cv∧ER c ρ F' h n es' cv∧es'.length=es.length
 |[],o,F,es,es',cs,[],H,hf,hE,_=>by simp[fillS]at hf;subst hf;exact⟨F,cs,.refl H,rfl,hE,rfl⟩
 |[],o,F,es,es',cs,_::_,H,hf,hE,hq=>hq.elim
 |a::l,o,F,es,es',cs,[],H,hf,hE,hq=>hq.elim
 |a::l,o,F,es,es',cs,b::m,H,hf,hE,hq=>by
  obtain⟨e,hv,hr⟩:=hq
  unfold fillS at hf
  split at hf
  ·rename_i l1 hc hfz
   simp only[Bool.and_eq_true,beq_iff]at hc
   split at hf
   ·rename_i es1 hset
    obtain⟨s1,s2,s3⟩:=setAt_some hset
    obtain⟨F1,A,a1⟩:=shares_ok (cellsT a.2) H
    obtain⟨f1,f2⟩:=frzs_fz hfz
    have hcr:=a1 l1 _ hfz (cells_rel hv hc.1)
    have hl1:l1.length=n:=by omega
    have hE1:=hE.mono A.keep
    have hvl:b.2.cells.toList.length=n:=by rw[←hcr.1];exact hl1
    have hle:a.1*n+b.2.cells.toList.length≤cs.length:=by
     rw[hvl,hE.len]
     have:(a.1+1)*n≤es.length*n:=Nat.mul_le_mul_right n s1
     rw[Nat.add_mul]at this;omega
    obtain⟨cs1,hcs1⟩:=setN_ex hle
    obtain⟨t1,t2,t3⟩:=setN_some hcs1
    have hE2:ER c ρ F1 h n es1 cs1:=by
     refine hE1.setAt s3 s2 s1 hl1 f1 t2 (fun j t v q1 q2=>?_) (fun k hk=>?_)
     ·have hj:j<l1.length:=(List.getElem?_eq_some_iff.1 q1).1
      rw[t3,if_pos ⟨by omega,by omega⟩]at q2
      exact hcr.2 j t v q1 (by rw[←q2];congr 1;omega)
     ·rw[t3,if_neg]
      rw[Nat.add_mul]at hk;omega
    have hfz2:fillS (shares o (cellsT a.2)) n es1 l=some es':=by
     have key:∀(o1:Ob),(∀t,frz o1 t=frz o t)→∀(l:List (Nat×TV)) (es:List (List TV)),fillS o1 n es l=fillS o n es l:=by
      intro o1 h1 l
      have h2:∀q,frzs o1 q=frzs o q:=by
       intro q
       induction q with
       |nil=>rfl
       |cons t q ih=>simp only[frzs,h1,ih]
      induction l with
      |nil=>intro es;rfl
      |cons p l ih=>
       intro es
       simp only[fillS,h2,ih]
     rw[key _ (fun t=>?_)];·exact hf
     have:∀(q:List TV) (o1:Ob),frz (shares o1 q) t=frz o1 t:=by
      intro q
      induction q with
      |nil=>intro o1;rfl
      |cons v q ih=>intro o1;simp only[shares];rw[ih,frz_share1]
     exact this _ _
    have hr1:PRs c ρ F1 h l m:=by
     have:∀(l:List (Nat×TV)) (m:List (Nat×Value)),PRs c ρ F h l m→PRs c ρ F1 h l m:=by
      intro l
      induction l with
      |nil=>intro m hm;cases m<;>exact hm
      |cons p l ih=>
       intro m hm
       cases m with
       |nil=>exact hm
       |cons q m=>exact⟨hm.1,A.keep _ _ hm.2.1,ih m hm.2.2⟩
     exact this l m hr
    obtain⟨F2,cv,B,b1,b2,b3⟩:=fillS_rel A.mem hfz2 hE2 hr1
    refine⟨F2,cv,A.trans B,?_,b2,by rw[b3,s2]⟩
    obtain⟨i,x⟩:=b
    simp only at e
    subst e
    simp only[fillA,Option.bind_some]
    have:x.cells.size=n:=by simpa using hvl
    rw[this]
    simp only at hcs1
    simp[grd,hcs1,b1]
   ·cases hf
  ·cases hf
end
end Go.M
namespace Go.M
open Go
section
variable {T E:Env} {X:Cx} {ρ:Gh} {F:Nat→Prop} {o:Ob} {c:Nat} {af:AF} {f:Fr} {h:AHeap} {p:Oper} {K:OK}
theorem Did.eff (_:Mem X ρ F o c h) {v:TV} {x:Value} {h':AHeap} {ρ':Gh} {F':Nat→Prop} {o':Ob} {c':Nat} {ns:List Nat} (hp:apure E af p=none) (hq:aread E af p=none) (ha:aalloc E af p=none)
 (he:aeff E X.base af p h=some (.val x,h')) (hN:Nx X ρ F o c h ρ' F' o' c' h') (hv:VR c' ρ' F' h' v x) (hr:Raw ρ o h ρ' o' h' ns) (hK:K v o' c' (.eff ns)):Did E X ρ F o c af h p K:=by
 refine⟨0,⟨x,h',.eff h h'⟩,v,o',c',ρ',F',.eff ns,fun n _=>?_,hK,hN,hv,.eff hr⟩
 unfold runOp;rw[hp,hq,ha,he]
theorem raw_set (H:Mem X ρ F o c h) {F1:Nat→Prop} {o1:Ob} (Sh:ShOk X ρ c h F o F1 o1) {S:Nat→Ft} (K1:MO X ρ F1 o1 c h S) {m:Nat} {y y':TO} {h':AHeap} (hl:look o1 m=some y) {x:Nat} (hhm:x∈hds (S m))
 (same:∀z,z<h.size→hd h z≠x→h'.get z=h.get z):Raw ρ o h ρ (upd1 o1 m y') h' [m]:=by
 intro n yn hn hne
 have hne':n≠m:=by simpa using hne
 obtain⟨y1,k1,k2⟩:=Sh.wk n yn hn
 refine⟨⟨y1,by rw[look_upd1,if_neg hne'];exact k1⟩,rfl,fun b hb=>?_⟩
 obtain⟨q1,q2⟩:=Sh.mem.atB_hd K1 k1 hb
 have hhb:hd h b≠x:=fun e=>by
  rw[e]at q2
  exact hne' (K1.heads n m y1 y _ k1 hl q2 hhm)
 exact⟨same b q1 hhb,fun cs hr=>rd_same H.wf same hhb hr⟩
theorem nx_of (_:Mem X ρ F o c h) {F1:Nat→Prop} {o1:Ob} (S:ShOk X ρ c h F o F1 o1) {ρ':Gh} {F2:Nat→Prop} {o2:Ob} {c2:Nat} {h':AHeap} (M:Mem X ρ' F2 o2 c2 h') (hk:∀t x,VR c ρ F1 h t x→VR c2 ρ' F2 h' t x) (hF:∀b,F1 b→F2 b)
 (hsz:h.size≤h'.size) (frz:∀b cs,F b→h.rd b=some cs→h'.rd b=some cs):Nx X ρ F o c h ρ' F2 o2 c2 h':=
 ⟨M,fun t x hx=>hk t x (S.keep t x hx),hsz,fun b hb=>hF b (S.FF b hb),frz⟩
theorem okC_one {t:TV} {x:Value} (ho:okC t=true) (hv:VR c ρ F h t x):oneC x=true:=by
 cases hv with
 |s hp=>cases x<;>simp[plain1]at hp<;>rfl
 |tk hn h1c=>cases x<;>simp[slV]at h1c;rfl
 |wp hn h1c=>cases x<;>simp[ptV]at h1c;rfl
 |j=>simp[okC]at ho
 |agg=>simp[okC]at ho
 |tup=>simp[okC]at ho
 |sv=>simp[okC]at ho
 |_=>rfl
theorem okC_all:∀{l:List TV} {m:List Value},l.all okC=true→VRs c ρ F h l m→m.all oneC=true
 |[],m,_,H=>by rw[H.inv_nil];rfl
 |t::l,m,ho,H=>by
  simp only[List.all_cons,Bool.and_eq_true]at ho
  obtain⟨v,m',rfl,h1,h2⟩:=H.inv_cons
  simp only[List.all_cons,Bool.and_eq_true]
  exact⟨okC_one ho.1 h1,okC_all ho.2 h2⟩
def cstore (E:Env) (base:Nat) (t:TypeId) (a v:Value) (h:AHeap):Option (ARes×AHeap):=(E.size t).bind fun n=>(asPtr a).bind fun p=>
      grd (Nat.beq v.cells.size n&&v.cells.toList.all oneC)<|(h.rd p.1).bind fun cs=>(setN cs p.2 v.cells.toList).bind fun cs'=>(h.wr base p.1 cs').bind fun h'=>some (.val undef,h')
theorem setN_mid {α:Type} {v1 v2 v3 v2' xs:List α} {p:Nat} (h:setN v2 p xs=some v2'):setN (v1++(v2++v3)) (v1.length+p) xs=some (v1++(v2'++v3)):=by
 obtain⟨s1,s2,s3⟩:=setN_some h
 obtain⟨r,hr⟩:=setN_ex (n:=v1.length+p) (l:=v1++(v2++v3)) (xs:=xs) (by simp;omega)
 rw[hr]
 congr 1
 rw[setN_eq hr,setN_eq h]
 rw[List.take_length_add_append,List.drop_length_add_append,List.take_append_of_le_length (by omega),List.drop_append_of_le_length (by omega),List.drop_append_of_le_length (by rw[List.length_drop];omega)]
 simp[List.append_assoc]
theorem CNs.setN {base:Nat} {S:Ft} {l xs r:List TV} {m ys:List Value} {p:Nat} (H:CNs c ρ F h base S l m) (hs:M.setN l p xs=some r) (hx:VRs c ρ F h xs ys):∃m' S',M.setN m p ys=some m'∧CNs c ρ F h base S' r m'∧S'.Sublist S:=by
 obtain⟨s1,s2,s3⟩:=setN_some hs
 have hlen:=H.len
 obtain⟨m',hm⟩:=setN_ex (n:=p) (l:=m) (xs:=ys) (by rw[←hx.1,←hlen];exact s1)
 obtain⟨S1,S2,S3,rfl,a1,a2,a3⟩:=H.part p xs.length
 refine⟨m',S1++S3,hm,?_,(List.sublist_append_right S2 S3).append_left S1⟩
 rw[setN_eq hs,setN_eq hm,←hx.1]
 exact a1.join ((CNs.ofVRs (base:=base) hx).join a3)
theorem set_self {α:Type} {l:List α} {i:Nat} {e:α} (he:l[i]? =some e):l.set i e=l:=by
 refine List.ext_getElem? fun k=>?_
 rw[List.getElem?_set]
 by_cases ek:i=k
 ·subst ek;rw[if_pos rfl,if_pos (List.getElem?_eq_some_iff.1 he).1,he]
 ·rw[if_neg ek]
theorem wstore_ok (L:EnvLe T E) (H:Mem X ρ F o c h) {t:TypeId} {a v:TV} {av vv:Value} (hw:wstore T t a v o c K) (ha:VR c ρ F h a av) (hv:VR c ρ F h v vv) (hp:apure E af p=none) (hq:aread E af p=none) (hal:aalloc E af p=none)
 (he:aeff E X.base af p h=cstore E X.base t av vv h):Did E X ρ F o c af h p K:=by
 unfold wstore at hw
 split at hw
 ·exact hw.elim
 ·rename_i n hn
  split at hw
  ·exact hw.elim
  ·rename_i hc
   simp only[Bool.and_eq_true,beq_iff]at hc
   obtain⟨⟨hov,hlen⟩,hall⟩:=hc
   have hcr:=cells_rel hv hov
   have hone:=okC_all hall hcr
   have hsz:vv.cells.size=n:=by have:=hcr.1;simp only[Array.length_toList]at this;omega
   have go:∀b q cs cs' h',av= .pointer (some ⟨b,q,none⟩)→h.rd b=some cs→setN cs q vv.cells.toList=some cs'→h.wr X.base b cs'=some h'→aeff E X.base af p h=some (.val undef,h'):=by
    rintro b q cs cs' h' rfl h1 h2 h3
    rw[he]
    unfold cstore
    simp only[L.size _ _ hn,Option.bind_some,asPtr,hsz,hone,h1,h2,h3,grd]
    simp
   split at hw
   ·rename_i m q
    split at hw
    ·rename_i cs hl
     split at hw
     ·rename_i cs1 hset
      obtain⟨S,K0⟩:=H.ex
      have hO:=K0.objs m _ hl
      generalize hS:S m=Sm at hO
      cases hO with
      |cells hb hg htt hc=>
       rename_i Sq b thr csv
       cases ha with
       |ptr hb'=>
        rw[hb]at hb';cases hb'
        have hrd:=rd_of (fam_of hg hg) htt (cellsOf_get hg)
        obtain⟨cs1v,S',h1,h2,h3⟩:=hc.setN hset hcr
        have hbS:(b,true)∈S m:=by rw[hS];exact List.mem_cons_self
        have hmine:=K0.mine m _ b hl (mem_hds hbS)
        have hnod:=K0.nod m _ hl
        rw[hS]at hnod
        obtain⟨n1,n2⟩:=List.nodup_cons.1 hnod
        have hsub:((b,true)::S').Sublist ((b,true)::Sq):=h3.cons_cons _
        have W:=wrH_ok (cs':=cs1v) H.wf hg (fam_of hg hg)
        obtain⟨t',th',hg'⟩:=W.self
        obtain⟨M,hk⟩:=H.set K0 (y':=.cells cs1) (S0:=(b,true)::S') hl hbS (fun p hp=>by rw[hS];exact hsub.subset hp) (show(hds _).Nodup from List.Sublist.nodup (hsub.map Prod.fst) hnod) W.size W.wf W.same W.hds fun hm frz=>by
         refine .cells hb (thr:=b) (cs':=cs1v) ?_ (Nat.le_refl _) (h2.keep (T:=fun x=>x=b) H.wf W.same (fun _ h=>h) frz hm fun x hx e=>?_)
         ·obtain⟨c0,hroot⟩:=fam_root W.fam
          simp only at hroot
          rw[hg']at hroot
          rw[hg',Option.some.injEq,AObj.cells.injEq]at*
          obtain⟨_,_,e3,e4⟩:=hroot
          exact⟨rfl,rfl,e3,e4⟩
         ·subst e;exact n1 ((h3.map Prod.fst).subset hx)
        refine Did.eff H hp hq hal (go _ _ _ _ _ rfl hrd h1 (wr_of hg (fam_of hg hg) hmine.1 hmine.1)) (nx_of H (.refl H) M hk (fun _ h=>h) (by rw[W.size];exact Nat.le_refl _) fun b' cs' hb' hr'=>rd_same H.wf W.same (K0.apart m _ _ b' hl hbS hb') hr') (.j _)
         (raw_set H (.refl H) K0 hl (mem_hds hbS) W.same) hw
     ·exact hw.elim
    ·exact hw.elim
   ·rename_i m i q
    -- a row of which each cell may name an object
    have row:∀{y:TO} {b f t0 th0 thr z:Nat} {es:List (List TV)} {e e1:List TV} {Sq:Ft} {cs:List Value} {S:Nat→Ft},MO X ρ F o c h S→look o m=some y→S m=(f,true)::Sq→ρ m=some (.arr b z es.length)→h.get b=some (.cells cs f t0 th0)→h.fam b=some (f,b,thr)→thr≤b→X.base≤f→0<z→cs.length=es.length*z→
     (∀e∈es,e.length=z)→(∀e∈es,∀t∈e,clT t=true)→i<es.length→e.length=z→av= .pointer (some ⟨b,i*z+q,none⟩)→CNs c ρ F h X.base Sq (es.set i e).flatten cs→setN e q (cellsT v)=some e1→K .j (upd1 o m (.arq z es [(i,e1)])) c (.eff [m])→Did E X ρ F o c af h p K:=by
     intro y b f t0 th0 thr z es e e1 Sq cs S K0 hl hS hb hg hf htt hbf hz hlen hee hcl hi hez hav hc hset hw
     obtain⟨S1,S2,S3,v1,v2,v3,rfl,rfl,a1,a2,a3⟩:=rows_split hee hi hc
     obtain⟨v2',S2',h1,h2,h3⟩:=a2.setN hset hcr
     have e1l:v1.length=i*z:=by
      have h1:=a1.len
      obtain⟨e0,he0⟩:∃e0,es[i]? =some e0:=⟨_,List.getElem?_eq_getElem hi⟩
      have:=(flatten_row hee he0).2
      rw[Nat.add_mul]at this
      rw[←h1,List.length_take];omega
     have hset2:setN (v1++(v2++v3)) (i*z+q) vv.cells.toList=some (v1++(v2'++v3)):=by rw[←e1l];exact setN_mid h1
     have hrd:=rd_of hf htt (cellsOf_get hg)
     have hfS:(f,true)∈S m:=by rw[hS];exact List.mem_cons_self
     have hmine:=K0.mine m _ f hl (mem_hds hfS)
     have hnod:=K0.nod m _ hl
     rw[hS]at hnod
     obtain⟨n1,n2⟩:=List.nodup_cons.1 hnod
     have hsub0:(S1++(S2'++S3)).Sublist (S1++(S2++S3)):=(h3.append_right S3).append_left S1
     have hsub:((f,true)::(S1++(S2'++S3))).Sublist ((f,true)::(S1++(S2++S3))):=hsub0.cons_cons _
     have hble:X.base≤b:=by have:=H.wf.le _ _ _ _ _ hg;omega
     have W:=wrH_ok (cs':=v1++(v2'++v3)) H.wf hg hf
     obtain⟨t',th',hg'⟩:=W.self
     have e1z:e1.length=z:=by rw[(setN_some hset).2.1];exact hez
     have hl2:v2'.length=v2.length:=(setN_some h1).2.1
     obtain⟨M,hk⟩:=H.set K0 (y':=.arq z es [(i,e1)]) (S0:=(f,true)::(S1++(S2'++S3))) hl hfS (fun p hp=>by rw[hS];exact hsub.subset hp) (show(hds _).Nodup from List.Sublist.nodup (hsub.map Prod.fst) hnod) W.size W.wf W.same W.hds fun hm frz=>by
      refine .arq hb hg' W.fam (Nat.le_refl _) hbf hz (by rw[←hlen];simp[hl2]) hee hcl (fun p hp=>?_) ((rows_join hee hi a1 h2 a3).keep (T:=fun x=>x=f) H.wf W.same (fun _ h=>h) frz hm fun x hx e=>?_)
      ·simp only[List.mem_singleton]at hp;subst hp;exact⟨hi,e1z⟩
      ·subst e;exact n1 ((hsub0.map Prod.fst).subset hx)
     refine Did.eff H hp hq hal (go _ _ _ _ _ hav hrd hset2 (wr_of hg hf hble hbf)) (nx_of H (.refl H) M hk (fun _ h=>h) (by rw[W.size];exact Nat.le_refl _) fun b' cs' hb' hr'=>rd_same H.wf W.same (K0.apart m _ _ b' hl hfS hb') hr') (.j _)
      (raw_set H (.refl H) K0 hl (mem_hds hfS) W.same) hw
    split at hw
    ·rename_i l hl0 hfz
     split at hw
     ·rename_i z es hl
      obtain⟨e,hee,hw⟩:=hw
      split at hw
      ·rename_i e1 hset
       obtain⟨F1,Sh,sv⟩:=shares_ok (cellsT v) H
       have H1:=Sh.mem
       have hl1:=sv l _ hfz hcr
       obtain⟨f1,f2⟩:=frzs_fz hfz
       obtain⟨b,z1,l1,hb,rfl⟩:=wp_ptr H1 hl rfl (Sh.keep _ _ ha)
       obtain⟨S,K1⟩:=H1.ex
       have hO:=K1.objs m _ hl
       generalize hS:S m=Sm at hO
       cases hO with
       |nil hb' hz=>rw[hb]at hb';cases hb'
       |arr hb' hg hf htt hbf hz hlen' hee' hfz' hc' hF=>
        rename_i f t0 th0 thr cs
        rw[hb]at hb';cases hb'
        have hE:ER c ρ F1 h z es cs:=⟨hlen',hee',hfz',hc'⟩
        have hrd:=rd_of hf htt (cellsOf_get hg)
        have hi:i<es.length:=(List.getElem?_eq_some_iff.1 hee).1
        have hez:=hee' e (List.mem_of_getElem? hee)
        obtain⟨s1,s2,s3⟩:=setN_some hset
        have hvl:vv.cells.toList.length=l.length:=hl1.1.symm
        have hle:(i+1)*z≤es.length*z:=Nat.mul_le_mul_right z hi
        rw[Nat.add_mul]at hle
        obtain⟨cs1,hcs1⟩:=setN_ex (n:=i*z+q) (l:=cs) (xs:=vv.cells.toList) (by rw[hlen',hvl];omega)
        obtain⟨t1,t2,t3⟩:=setN_some hcs1
        have hfS:(f,true)∈S m:=by rw[hS];exact List.mem_cons_self
        have hmine:=K1.mine m _ f hl (mem_hds hfS)
        have hble:X.base≤b:=by
         have:=H1.wf.le _ _ _ _ _ hg;omega
        have W:=wrH_ok (cs':=cs1) H.wf hg hf
        obtain⟨t',th',hg'⟩:=W.self
        have hE2:ER c ρ F1 h z (es.set i e1) cs1:=by
         refine hE.setAt (i:=i) (l:=e1) (fun j=>?_) (by simp) hi (by rw[s2,hez]) (fun t ht=>?_) t2 (fun j t v q1 q2=>?_) (fun k hk=>?_)
         ·rw[List.getElem?_set]
          by_cases ej:i=j
          ·subst ej;rw[if_pos rfl,if_pos rfl,if_pos hi]
          ·rw[if_neg ej,if_neg (fun e=>ej e.symm)]
         ·obtain⟨j,hj⟩:=List.getElem?_of_mem ht
          rw[s3]at hj
          split at hj
          ·exact f1 t (List.mem_of_getElem? hj)
          ·exact hfz' e (List.mem_of_getElem? hee) t (List.mem_of_getElem? hj)
         ·rw[s3]at q1
          rw[t3]at q2
          split at q1
          ·rename_i hj
           rw[if_pos ⟨by omega,by omega⟩]at q2
           exact hl1.2 (j - q) t v q1 (by rw[←q2];congr 1;omega)
          ·rename_i hj
           rw[if_neg (by omega)]at q2
           exact hc' i j e t v hee q1 q2
         ·rw[t3,if_neg]
          rw[Nat.add_mul]at hk;omega
        obtain⟨M,hk⟩:=H1.set K1 (y':=.arr z true (es.set i e1)) (S0:=[(f,true)]) hl hfS (fun p hp=>by simp only[List.mem_singleton]at hp;subst hp;exact hfS) (by simp[hds]) W.size W.wf W.same W.hds fun hm _=>
         OR.arr' (by simp[hb]) hg' W.fam (Nat.le_refl _) hbf hz (hE2.mono hm) (fun h=>by cases h)
        refine Did.eff H hp hq hal (go _ _ _ _ _ rfl hrd hcs1 (wr_of hg hf hble hbf)) (nx_of H Sh M hk (fun _ h=>h) (by rw[W.size];exact Nat.le_refl _) fun b' cs' hb' hr'=>rd_same H.wf W.same (K1.apart m _ _ b' hl hfS (Sh.FF _ hb')) hr') (.j _)
         (raw_set H Sh K1 hl (mem_hds hfS) W.same) hw
      ·exact hw.elim
     ·exact hw.elim
    ·rename_i z es hl hfz
     obtain⟨e,hee,hw⟩:=hw
     split at hw
     ·rename_i e1 hset
      obtain⟨b,z1,l1,hb,hav⟩:=wp_ptr H hl rfl ha
      obtain⟨S,K0⟩:=H.ex
      have hO:=K0.objs m _ hl
      generalize hS:S m=Sm at hO
      cases hO with
      |nil hb' hz=>rw[hb]at hb';cases hb'
      |arr hb' hg hf htt hbf hz hlen' hee' hfz' hc' hF=>
       rw[hb]at hb';cases hb'
       have hi:i<es.length:=(List.getElem?_eq_some_iff.1 hee).1
       refine row K0 hl hS hb hg hf htt hbf hz hlen' hee' (fun e he t ht=>?_) hi (hee' e (List.mem_of_getElem? hee)) hav (by rw[set_self hee];exact CNs.ofVRs (VRs_flatten hlen' hee' hc')) hset hw
       have:=hfz' e he t ht
       unfold clT;split<;>first|rfl |exact this
     ·exact hw.elim
    ·rename_i z es op hl
     obtain⟨b,z1,l1,hb,hav⟩:=wp_ptr H hl rfl ha
     obtain⟨S,K0⟩:=H.ex
     have hO:=K0.objs m _ hl
     generalize hS:S m=Sm at hO
     cases hO with
     |qnil hb' hz=>rw[hb]at hb';cases hb'
     |arq hb' hg hf htt hbf hz hlen' hee' hcl hop hc'=>
      rw[hb]at hb';cases hb'
      unfold welem at hw
      split at hw
      ·obtain⟨e,hee,hw⟩:=hw
       split at hw
       ·rename_i e1 hset
        have hi:i<es.length:=(List.getElem?_eq_some_iff.1 hee).1
        exact row K0 hl hS hb hg hf htt hbf hz hlen' hee' hcl hi (hee' e (List.mem_of_getElem? hee)) hav (by rw[set_self hee];exact hc') hset hw
       ·exact hw.elim
      ·rename_i j ej
       obtain⟨o1,o2⟩:=hop (j,ej) (by simp)
       by_cases eij:i=j
       ·subst eij
        have hw:=hw.1 rfl
        simp only at hw
        split at hw
        ·rename_i e1 hset
         exact row K0 hl hS hb hg hf htt hbf hz hlen' hee' hcl o1 o2 hav hc' hset hw
        ·exact hw.elim
       ·obtain⟨_,_,hw⟩:=hw.2 eij
        exact hw.elim
      ·obtain⟨_,_,hw⟩:=hw
       exact hw.elim
    ·exact hw.elim
   ·exact hw.elim
def cmapUpdate (E:Env) (base:Nat) (t:TypeId) (m k v:Value) (h:AHeap):Option (ARes×AHeap):=(amapUpdate E base h t m k v).bind fun h'=>some (.val undef,h')
theorem map_setG (H:Mem X ρ F o c h) {F1:Nat→Prop} {o1:Ob} (Sh:ShOk X ρ c h F o F1 o1) {S:Nat→Ft} (K1:MO X ρ F1 o1 c h S) {n:Nat} {y y':TO} {b clock clock':Nat} {ev ev1:List MapEntry} {Sq S':Ft} (hl:look o1 n=some y) (hS:S n=(b,true)::Sq) (hg:h.get b=some (.map ev clock))
 (hsub:∀p∈S',p∈Sq) (hnd:(hds S').Nodup) {x:Value} {v:TV} (hp:apure E af p=none) (hq:aread E af p=none) (hal:aalloc E af p=none) (he:aeff E X.base af p h=some (.val x,h.put b (.map ev1 clock'))) (hv:∀c ρ F h,VR c ρ F h v x)
 (hor:∀h',(∀t v,VR c ρ F1 h t v→VR c ρ F1 h' t v)→(∀b',b'<h.size→¬(hd h b'=b)→h'.get b'=h.get b')→(∀b cs,F1 b→h.rd b=some cs→h'.rd b=some cs)→h'.get b=some (.map ev1 clock')→(∀x∈hds S',x≠b)→OR c ρ F1 h' X.base n ((b,true)::S') y')
 (hK:K v (upd1 o1 n y') c (.eff [n])):Did E X ρ F o c af h p K:=by
 have H1:=Sh.mem
 have hbS:(b,true)∈S n:=by rw[hS];exact List.mem_cons_self
 have hnod:=K1.nod n _ hl
 rw[hS]at hnod
 obtain⟨n1,n2⟩:=List.nodup_cons.1 hnod
 have hnb:∀x∈hds S',x≠b:=fun x hx e=>by
  subst e
  obtain⟨q,hq,e⟩:=List.mem_map.1 hx
  exact n1 (List.mem_map.2 ⟨q,hsub q hq,e⟩)
 have hdb:hd h b=b:=by simp[hd,hg]
 have hget:∀x,(h.put b (.map ev1 clock')).get x=if x=b then some (.map ev1 clock')else h.get x:=fun x=>AHeap.get_put _ _ _ _
 have same:∀x,x<h.size→hd h x≠b→(h.put b (.map ev1 clock')).get x=h.get x:=fun x _ hx=>by
  rw[hget,if_neg]
  intro e;subst e;exact hx hdb
 have hds':∀x,hd (h.put b (.map ev1 clock')) x=hd h x:=fun x=>by
  by_cases e:x=b
  ·subst e;rw[hdb];unfold hd;rw[hget,if_pos rfl]
  ·unfold hd;rw[hget,if_neg e]
 have hwf:Wf (h.put b (.map ev1 clock')):=by
  have hbl:=H.wf.lt hg
  refine⟨fun x hx=>?_,fun x cs f t th hx=>?_⟩
  ·rw[AHeap.size_put]at hx
   rw[hget,if_neg (by omega)];exact H.wf.high x hx
  ·rw[hget]at hx
   split at hx
   ·cases hx
   ·exact H.wf.le _ _ _ _ _ hx
 obtain⟨M,hk⟩:=H1.set K1 (y':=y') (S0:=(b,true)::S') hl hbS (fun p hp=>by
  rw[hS]
  rcases List.mem_cons.1 hp with rfl |hp
  ·exact List.mem_cons_self
  ·exact List.mem_cons_of_mem _ (hsub p hp)) (List.nodup_cons.2 ⟨fun hx=>hnb b hx rfl,hnd⟩) (AHeap.size_put _ _ _) hwf same hds' fun hm frz=>
  hor _ hm same frz (by rw[hget,if_pos rfl]) hnb
 exact Did.eff H hp hq hal he (nx_of H Sh M hk (fun _ h=>h) (by rw[AHeap.size_put];exact Nat.le_refl _) fun b' cs' hb' hr'=>rd_same H.wf same (K1.apart n _ _ b' hl hbS (Sh.FF _ hb')) hr') (hv _ _ _ _)
  (raw_set H Sh K1 hl (mem_hds hbS) same) hK
theorem map_set (H:Mem X ρ F o c h) {F1:Nat→Prop} {o1:Ob} (Sh:ShOk X ρ c h F o F1 o1) {n kn:Nat} {es es1:List (Value×TV)} {b clock clock':Nat} {ev ev1:List MapEntry} (hl:look o1 n=some (.map kn es)) (hb:ρ n=some (.blk b)) (hg:h.get b=some (.map ev clock))
 (hE:ERs c ρ F1 h kn es1 ev1) (hst:StL ev1 clock') {x:Value} {v:TV} (hp:apure E af p=none) (hq:aread E af p=none) (hal:aalloc E af p=none) (he:aeff E X.base af p h=some (.val x,h.put b (.map ev1 clock'))) (hv:∀c ρ F h,VR c ρ F h v x)
 (hK:K v (upd1 o1 n (.map kn es1)) c (.eff [n])):Did E X ρ F o c af h p K:=by
 obtain⟨S,K1⟩:=Sh.mem.ex
 have hO:=K1.objs n _ hl
 generalize hS:S n=Sm at hO
 cases hO with
 |map hb' hg' hl' hc' hst'=>
  rw[hb]at hb';cases hb'
  exact map_setG H Sh K1 (S':=[]) hl hS hg (by simp) (by simp[hds]) hp hq hal he hv (fun h' hm same frz hgn _=>.map hb hgn hE.1 (fun i e e' q1 q2=>let⟨r1,r2,r3,r4⟩:=hE.2 i e e' q1 q2;⟨r1,r2,r3,hm _ _ r4⟩) hst) hK
end
end Go.M
