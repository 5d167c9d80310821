/-
  Part 28 of the library that the proof leans on.
-/
import Derived.Test.YtgjfaieghmigjaaGreatDoorL27
namespace Go.M
open Go Go.Proofs
set_option maxHeartbeats 1000000
@[reducible] def nz (r:RowS):Bool:=decide (r.num≠0)
@[reducible] def lstT (t:TabS):List RowS:=[t.r1,t.r2,t.r3,t.r4,t.r5,t.r6]
@[reducible] def rowsT (t:TabS):List RowS:=(lstT t).filter nz
def Std:Int→List RowS→Prop
 |_,[]=>True
 |i,r::l=>(r.num≠0→r.client=i)∧0≤r.num∧Std (i+1) l
theorem Std.low {i:Int} {l:List RowS} (h:Std i l):∀r∈l.filter nz,i≤r.client:=by
 induction l generalizing i with
 |nil=>simp
 |cons r l ih=>
  obtain⟨h1,_,h2⟩:=h
  intro x m
  rw[List.mem_filter]at m
  obtain⟨m,hx⟩:=m
  have hx:x.num≠0:=by simpa using hx
  rcases List.mem_cons.1 m with rfl |m
  ·rw[h1 hx];exact Int.le_refl _
  ·have:=ih h2 x (List.mem_filter.2 ⟨m,by simpa using hx⟩);omega
theorem insBy_front {α:Type} {key:α→Int} {x:α} {l:List α} (h:∀a∈l,key x<key a):insBy key x l=x::l:=by
 cases l with
 |nil=>rfl
 |cons a l=>
  have:=h a (by simp)
  show(if key a<key x then _ else if key a=key x then _ else _)=_
  rw[if_neg (by omega),if_neg (by omega)]
theorem Std.ins {i:Int} {l:List RowS} (h:Std i l) {x:RowS} (hx:x.num≠0) (h1:i≤x.client) (h2:x.client<i+l.length):
 insBy keyRow x (l.filter nz)=(l.set (x.client - i).toNat x).filter nz:=by
 induction l generalizing i with
 |nil=>simp at h2;omega
 |cons r l ih=>
  obtain⟨q1,q0,q2⟩:=h
  by_cases e:x.client=i
  ·rw[show(x.client - i).toNat=0 from by omega]
   show insBy keyRow x ((r::l).filter nz)=(x::l).filter nz
   rw[show(x::l).filter nz=x::l.filter nz from List.filter_cons_of_pos (by simpa using hx)]
   have hlow:∀a∈l.filter nz,keyRow x<keyRow a:=fun a m=>by have:=q2.low a m;show x.client<a.client;omega
   by_cases hr:r.num=0
   ·rw[List.filter_cons_of_neg (by simpa using hr),insBy_front hlow]
   ·rw[List.filter_cons_of_pos (by simpa using hr)]
    have:=q1 hr
    show(if r.client<x.client then _ else if r.client=x.client then _ else _)=_
    rw[if_neg (by omega),if_pos (by omega)]
  ·have ih':=ih q2 (by omega) (by simp at h2;omega)
   rw[show(x.client - i).toNat=(x.client - (i+1)).toNat+1 from by omega]
   show _=(r::l.set (x.client - (i+1)).toNat x).filter nz
   by_cases hr:r.num=0
   ·rw[List.filter_cons_of_neg (by simpa using hr),List.filter_cons_of_neg (by simpa using hr)];exact ih'
   ·rw[List.filter_cons_of_pos (by simpa using hr),List.filter_cons_of_pos (by simpa using hr)]
    have:=q1 hr
    show(if r.client<x.client then r::insBy keyRow x (l.filter nz)else _)=_
    rw[if_pos (by omega),ih']
theorem Std.get {i:Int} {l:List RowS} (h:Std i l) {c:Int} (h1:i≤c) (h2:c<i+l.length):
 getR (l.filter nz) c=if(l.getD (c - i).toNat zeroR).num=0 then none else some (l.getD (c - i).toNat zeroR):=by
 induction l generalizing i with
 |nil=>simp at h2;omega
 |cons r l ih=>
  obtain⟨q1,q0,q2⟩:=h
  by_cases e:c=i
  ·subst e
   rw[show(c - c).toNat=0 from by omega]
   show _=if r.num=0 then none else some r
   by_cases hr:r.num=0
   ·rw[List.filter_cons_of_neg (by simpa using hr),if_pos hr]
    exact getR_no fun x m=>by have:=q2.low x m;omega
   ·rw[List.filter_cons_of_pos (by simpa using hr),if_neg hr]
    exact getR_at (i:=0) (by simp) (by simp) (q1 hr)
  ·have ih':=ih q2 (by omega) (by simp at h2;omega)
   rw[show(c - i).toNat=(c - (i+1)).toNat+1 from by omega]
   show _=if(l.getD (c - (i+1)).toNat zeroR).num=0 then none else some (l.getD (c - (i+1)).toNat zeroR)
   by_cases hr:r.num=0
   ·rw[List.filter_cons_of_neg (by simpa using hr)];exact ih'
   ·rw[List.filter_cons_of_pos (by simpa using hr)]
    have:=q1 hr
    rw[←ih']
    unfold getR
    rw[List.find?_cons_of_neg (by simp;omega)]
theorem Std.set {i:Int} {l:List RowS} (h:Std i l) {x:RowS} (hx:0≤x.num) (h1:i≤x.client) (h2:x.client<i+l.length):Std i (l.set (x.client - i).toNat x):=by
 induction l generalizing i with
 |nil=>simp at h2;omega
 |cons r l ih=>
  obtain⟨q1,q0,q2⟩:=h
  by_cases e:x.client=i
  ·rw[show(x.client - i).toNat=0 from by omega]
   exact⟨fun _=>e,hx,q2⟩
  ·rw[show(x.client - i).toNat=(x.client - (i+1)).toNat+1 from by omega]
   exact⟨q1,q0,ih q2 (by omega) (by simp at h2;omega)⟩
theorem row_lst (t:TabS) {c:Int} (h:1≤c∧c≤6):t.row c=(lstT t).getD (c - 1).toNat zeroR:=by
 rcases cases6 h with rfl |rfl |rfl |rfl |rfl |rfl<;>rfl
theorem put_lst (t:TabS) {c:Int} (h:1≤c∧c≤6) (r:RowS):lstT (t.put c r)=(lstT t).set (c - 1).toNat r:=by
 rcases cases6 h with rfl |rfl |rfl |rfl |rfl |rfl<;>rfl
theorem judge_rows {t:TabS} (H:Std 1 (lstT t)) (c n:Int) (hn:0≤n):judgeR (rowsT t) c n=judgeC t c n:=by
 unfold judgeR judgeC
 split
 ·rfl
 ·rename_i h
  have hc:1≤c∧c≤6:=Decidable.not_not.1 (fun q=>h (.inl q))
  have hn0:n≠0:=fun q=>h (.inr q)
  rw[H.get hc.1 (by show c<1+6;omega),row_lst t hc]
  generalize (lstT t).getD (c - 1).toNat zeroR=r
  by_cases hr:r.num=0
  ·rw[if_pos hr,if_pos (by omega)]
  ·rw[if_neg hr]
   show(if r.num<n then 0 else if r.num=n then 1 else 2)=if r.num<n then 0 else if n=r.num then 1 else 2
   split
   ·rfl
   ·split<;>split<;>omega
theorem insBy_mem {α:Type} {key:α→Int} {x:α}:∀{l:List α},∀a∈insBy key x l,a=x∨a∈l
 |[],a,h=>by simp[insBy]at h;exact .inl h
 |b::l,a,h=>by
  unfold insBy at h
  split at h
  ·rcases List.mem_cons.1 h with rfl |h
   ·exact .inr (by simp)
   ·rcases insBy_mem a h with h|h
    ·exact .inl h
    ·exact .inr (List.mem_cons_of_mem _ h)
  ·split at h
   ·rcases List.mem_cons.1 h with rfl |h
    ·exact .inl rfl
    ·exact .inr (List.mem_cons_of_mem _ h)
   ·rcases List.mem_cons.1 h with rfl |h
    ·exact .inl rfl
    ·exact .inr h
theorem insBy_up {l:List (Int×List Vs)} {x:Int×List Vs} (h:l.Pairwise fun a b=>a.1<b.1):(insBy keyBl x l).Pairwise fun a b=>a.1<b.1:=by
 induction l with
 |nil=>simp[insBy]
 |cons a l ih=>
  rw[List.pairwise_cons]at h
  unfold insBy
  split
  ·rename_i q
   have q:a.1<x.1:=q
   rw[List.pairwise_cons]
   refine⟨fun b m=>?_,ih h.2⟩
   rcases insBy_mem b m with rfl |m
   ·exact q
   ·exact h.1 b m
  ·rename_i q
   have q:¬a.1<x.1:=q
   split
   ·rename_i q2
    have q2:a.1=x.1:=q2
    rw[List.pairwise_cons]
    exact⟨fun b m=>by have:=h.1 b m;omega,h.2⟩
   ·rename_i q2
    have q2:¬a.1=x.1:=q2
    rw[List.pairwise_cons]
    refine⟨fun b m=>?_,List.pairwise_cons.2 h⟩
    rcases List.mem_cons.1 m with rfl |m
    ·omega
    ·have:=h.1 b m;omega
theorem lookA_front {α:Type} {l:List (Int×α)} {k:Int} (h:∀b∈l,k<b.1):lookA l k=none:=lookA_no fun b m q=>by have:=h b m;omega
theorem insBy_look {l:List (Int×List Vs)} {x:Int×List Vs} (h:l.Pairwise fun a b=>a.1<b.1) (k:Int):lookA (insBy keyBl x l) k=if k=x.1 then some x.2 else lookA l k:=by
 induction l with
 |nil=>simp[insBy,lookA]
 |cons a l ih=>
  rw[List.pairwise_cons]at h
  have ih:=ih h.2
  unfold insBy
  split
  ·rename_i q
   have q:a.1<x.1:=q
   simp only[lookA]
   rw[ih]
   by_cases hk:k=a.1
   ·rw[if_pos hk,if_neg (by omega),if_pos hk]
   ·rw[if_neg hk,if_neg hk]
  ·rename_i q
   split
   ·rename_i q2
    have q2:a.1=x.1:=q2
    simp only[lookA]
    by_cases hk:k=x.1
    ·rw[if_pos hk,if_pos hk]
    ·rw[if_neg hk,if_neg hk,if_neg (by omega)]
   ·simp only[lookA]
theorem insBy_len {l:List (Int×List Vs)} {x:Int×List Vs} (h:l.Pairwise fun a b=>a.1<b.1):(lookA l x.1=none→(insBy keyBl x l).length=l.length+1)∧(lookA l x.1≠none→(insBy keyBl x l).length=l.length):=by
 induction l with
 |nil=>exact⟨fun _=>rfl,fun q=>absurd rfl q⟩
 |cons a l ih=>
  rw[List.pairwise_cons]at h
  have ih:=ih h.2
  unfold insBy
  split
  ·rename_i q
   have q:a.1<x.1:=q
   have e:lookA (a::l) x.1=lookA l x.1:=by simp only[lookA];rw[if_neg (show¬x.1=a.1 by omega)]
   rw[e]
   exact⟨fun w=>by rw[List.length_cons,List.length_cons,ih.1 w],fun w=>by rw[List.length_cons,List.length_cons,ih.2 w]⟩
  ·rename_i q
   have q:¬a.1<x.1:=q
   split
   ·rename_i q2
    have q2:a.1=x.1:=q2
    have e:lookA (a::l) x.1=some a.2:=by simp only[lookA];rw[if_pos q2.symm]
    rw[e]
    exact⟨(fun w=>by cases w),fun _=>rfl⟩
   ·rename_i q2
    have q2:¬a.1=x.1:=q2
    have e:lookA (a::l) x.1=none:=by simp only[lookA];rw[if_neg (show¬x.1=a.1 by omega)];exact lookA_front fun b m=>by have:=h.1 b m;omega
    rw[e]
    exact⟨fun _=>rfl,fun w=>absurd rfl w⟩
theorem putA_length {bs:List (Int×List Vs)} {k:Int} {vs:List Vs}:(putA bs k vs).length=if lookA bs k=none then bs.length+1 else bs.length:=by
 have:=congrArg List.length (putA_keys (n:=k) (v:=vs) (es:=bs))
 simp only[keysA,List.length_map]at this
 rw[this]
 by_cases h:lookA bs k=none
 ·rw[if_pos h,if_neg (lookA_none.1 h)];simp
 ·rw[if_neg h,if_pos (Decidable.not_not.1 (fun q=>h (lookA_none.2 q)))];simp
structure Rel (s:StS) (r:RfS):Prop where
 e:r.e=s.e
 up:r.bs.Pairwise fun a b=>a.1<b.1
 lk:∀k,lookA r.bs k=lookA s.bs k
 len:r.bs.length=s.bs.length
 std:Std 1 (lstT s.t)
 rows:r.rows=rowsT s.t
theorem Rel.of {s:StS} {r:RfS} (H:Rel s r) (k:Int):ofR r k=ofK s k:=by unfold ofR ofK;rw[H.lk]
theorem Rel.zero:Rel ⟨0,[],zeroTab⟩ ⟨0,[],[]⟩:=⟨rfl,.nil,fun _=>rfl,rfl,by simp[Std],rfl⟩
theorem rows_len (t:TabS):(rowsT t).length≤6:=List.length_filter_le nz (lstT t)
theorem Rel.ok {s:StS} {r:RfS} {n:Nat} (H:Rel s r) (I:SInv s n) (hn:n<500):ROk r:=⟨by rw[H.len];have:=I.len;omega,by rw[H.rows];have:=rows_len s.t;omega,fun k=>by
 rw[H.of]
 have g:=(I.g k).last I.e.1
 have gl:=I.gl k
 exact⟨by omega,g.1,g.2.1⟩⟩
end Go.M
namespace Go.M
open Go Go.Proofs
set_option maxHeartbeats 1000000
theorem putA_lenIs {bs:List (Int×List Vs)} {k:Int} {vs:List Vs}:(lookA bs k=none→(putA bs k vs).length=bs.length+1)∧(lookA bs k≠none→(putA bs k vs).length=bs.length):=by
 have h:=putA_length (bs:=bs) (k:=k) (vs:=vs)
 exact⟨fun q=>by rw[h,if_pos q],fun q=>by rw[h,if_neg q]⟩
theorem Rel.put {s:StS} {r:RfS} (H:Rel s r) {e:Int} (k:Int) (vs:List Vs):Rel {s with e:=e,bs:=putA s.bs k vs} {r with e:=e,bs:=insBy keyBl (k,vs) r.bs}:=by
 refine⟨rfl,insBy_up H.up,fun k'=>?_,?_,H.std,H.rows⟩
 ·rw[insBy_look H.up,lookA_put]
  split
  ·rfl
  ·exact H.lk k'
 ·show(insBy keyBl (k,vs) r.bs).length=(putA s.bs k vs).length
  have h1:=insBy_len (x:=(k,vs)) H.up
  have h2:=putA_lenIs (bs:=s.bs) (k:=k) (vs:=vs)
  by_cases h:lookA s.bs k=none
  ·rw[h1.1 (by rw[H.lk];exact h),h2.1 h,H.len]
  ·rw[h1.2 (by rw[H.lk];exact h),h2.2 h,H.len]
theorem outC_code (u:UpR) (ver:Int) (b:Bool):0≤(outC u ver b).1∧(outC u ver b).1≤255:=by
 unfold outC
 repeat' split
 all_goals simp
theorem okU_all {u:UpR} (h:chkU u=0) (hu:UOk u):1≤u.client∧u.client≤6∧1≤u.num∧1≤u.seq:=by
 have h1:=hu.num
 have h2:=hu.seq
 unfold chkU okU at h
 split at h
 ·split at h
  ·omega
  ·split at h
   ·rename_i q;simp at q;omega
   ·omega
 ·omega
theorem Rel.row {s:StS} {r:RfS} (H:Rel s r) {x:RowS} (h1:1≤x.client∧x.client≤6) (h2:1≤x.num):Std 1 (lstT (s.t.put x.client x))∧insBy keyRow x r.rows=rowsT (s.t.put x.client x):=by
 rw[put_lst s.t h1,H.rows]
 refine⟨H.std.set (by omega) h1.1 (by show x.client<1+6;omega),?_⟩
 rw[H.std.ins (by omega) h1.1 (by show x.client<1+6;omega)]
 show _=(lstT (s.t.put x.client x)).filter nz
 rw[put_lst s.t h1]
theorem rel_apply {s:StS} {r:RfS} (H:Rel s r) (u:UpR) (hu:UOk u):(applyS s u).1=((applyR r u).1.2,(applyR r u).2)∧Rel (applyS s u).2 (applyR r u).1.1:=by
 unfold applyS applyR
 by_cases h0:chkU u=0
 ·rw[if_neg (not_not_intro h0),if_neg (not_not_intro h0),H.e]
  by_cases h1:u.seq - 1=s.e
  ·rw[if_neg (not_not_intro h1),if_neg (not_not_intro h1)]
   have hj:judgeR r.rows u.client u.num=judgeC s.t u.client u.num:=by rw[H.rows];exact judge_rows H.std _ _ hu.num.1
   rw[hj]
   by_cases h2:judgeC s.t u.client u.num=0
   ·rw[if_neg (not_not_intro h2),if_neg (not_not_intro h2)]
    obtain⟨c1,c2,c3,c4⟩:=okU_all h0 hu
    have ho:outRf r u=outS s u:=by
     show outC u (lastV (ofR r u.key)).ver (decide (r.bs.length<192))=outC u (lastV (ofK s u.key)).ver (decide (s.bs.length<192))
     rw[H.of,H.len]
    have hrow:rowRf r u=rowS s u:=by unfold rowRf rowS;rw[ho]
    have hset:setC s.t (rowS s u)=0:=by
     have:=outC_code u (lastV (ofK s u.key)).ver (roomS s)
     unfold setC
     rw[if_neg (by unfold fineB;exact fun q=>of_decide_eq_false q ⟨⟨c1,c2⟩,c3,c4,this.1,this.2⟩),if_neg (not_not_intro h2)]
    have hst:setT s.t (rowS s u)=s.t.put u.client (rowS s u):=by unfold setT;rw[if_pos hset]
    obtain⟨g1,g2⟩:=H.row (x:=rowS s u) ⟨c1,c2⟩ c3
    refine⟨by rw[hset,hrow],?_⟩
    show Rel {wrote s u with t:=setT s.t (rowS s u)} ⟨u.seq,wroteRf r u,insBy keyRow (rowRf r u) r.rows⟩
    rw[hst,hrow,g2]
    unfold wrote wroteRf
    rw[ho]
    by_cases hm:(outS s u).2.2=true
    ·rw[if_pos hm,if_pos hm,H.of]
     have:=H.put (e:=u.seq) u.key (putB (ofK s u.key) ⟨(outS s u).2.1,u.seq,u.data⟩)
     exact⟨this.e,this.up,this.lk,this.len,g1,rfl⟩
    ·rw[if_neg hm,if_neg hm]
     exact⟨rfl,H.up,H.lk,H.len,g1,rfl⟩
   ·rw[if_pos h2,if_pos h2]
    exact⟨rfl,rfl,H.up,H.lk,H.len,H.std,H.rows⟩
  ·rw[if_pos h1,if_pos h1];exact⟨rfl,H⟩
 ·rw[if_pos h0,if_pos h0];exact⟨rfl,H⟩
theorem cleanR_app {A B:List Vs} {d:Int} (hA:∀a∈A,a.seq≤d) (hB:∀b∈B,d<b.seq):cleanR (A++B) d=lastV A:=by
 unfold cleanR
 rw[List.filter_append,List.filter_eq_self.2 (fun a m=>by simpa using hA a m),List.filter_eq_nil_iff.2 (fun b m=>by have:=hB b m;simp;omega),List.append_nil]
theorem clean_eq {e:Int} {vs:List Vs} (g:Good e vs) (d:Int):atV vs (cleanI vs d)=cleanR vs d:=by
 obtain⟨A,B,rfl,h1,h2⟩:=g.split_seq d
 rw[clean_app h1 h2,cleanR_app h1 h2,atV_last]
theorem pick_eq {e:Int} {vs:List Vs} (g:Good e vs) (v d:Int):pickV vs v d=pickR vs v d:=by
 obtain⟨A,B,hab,h1,h2⟩:=g.split_ver v
 have hc:=clean_eq g d
 have hp:atV vs (pickI vs v)=B.headD zeroVs:=by rw[hab,pick_app h1 h2,atV_mid]
 unfold pickV pickR
 rw[hp,hc]
 have hA:A.find? (fun x=>decide (x.ver=v))=none:=List.find?_eq_none.2 fun a m=>by have:=h1 a m;simp;omega
 cases B with
 |nil=>
  rw[show vs.find? (fun x=>decide (x.ver=v))=none from by rw[hab,List.find?_append,hA];rfl]
  show(if(0:Int)=v then zeroVs else _)=(if v<(cleanR vs d).ver then cleanR vs d else zeroVs)
  split
  ·rename_i q
   have:vs=[]:=by
    rw[hab,List.append_nil]
    cases A with
    |nil=>rfl
    |cons a A=>have q1:=h1 a (by simp);have q2:=(g.v a (by rw[hab];simp)).1;omega
   rw[this]
   show zeroVs=if v<(lastV []).ver then lastV []else zeroVs
   rw[lastV_nil,if_neg (by show¬v<0;omega)]
  ·rfl
 |cons b B=>
  show(if b.ver=v then b else _)=_
  split
  ·rename_i q
   rw[show vs.find? (fun x=>decide (x.ver=v))=some b from by rw[hab,List.find?_append,hA,List.find?_cons_of_pos (by simpa using q)];rfl]
  ·rename_i q
   have hb:=h2 b (by simp)
   have hu:=g.up
   rw[hab,List.pairwise_append,List.pairwise_cons]at hu
   rw[show vs.find? (fun x=>decide (x.ver=v))=none from by
    rw[hab,List.find?_append,hA,List.find?_cons_of_neg (by simpa using q)]
    exact List.find?_eq_none.2 fun a m=>by have:=(hu.2.1.1 a m).1;simp;omega]
theorem keep_eq {e:Int} {vs:List Vs} (g:Good e vs) (d:Int):keepR (cleanR vs d) vs=vs.drop (trimN vs d):=by
 obtain⟨A,B,rfl,h1,h2⟩:=g.split_seq d
 rw[cleanR_app h1 h2]
 have ht:trimN (A++B) d=A.length - 1:=by unfold trimN;rw[clean_app h1 h2];omega
 rw[ht]
 unfold keepR
 rcases two_ends A with rfl |⟨ws,w,rfl⟩
 ·rw[lastV_nil]
  show _=B
  rw[List.nil_append,List.filter_eq_self.2 fun b m=>by have:=(g.v b (by simpa using m)).2.1;show decide (0≤b.seq)=true;simp;omega]
 ·rw[lastV_end]
  have hu:=g.up
  rw[List.pairwise_append,List.pairwise_append]at hu
  rw[List.length_append,List.length_singleton,Nat.add_sub_cancel,List.append_assoc,List.drop_left',List.filter_append,List.filter_eq_nil_iff.2 (fun a m=>by have:=(hu.1.2.2 a m w (by simp)).2;simp;omega),List.nil_append,
   List.filter_eq_self.2 (fun a m=>by
    rcases List.mem_append.1 m with m|m
    ·simp only[List.mem_singleton]at m;subst m;simp
    ·have:=h1 w (by simp);have:=h2 a m;simp;omega)]
  rfl
theorem map_look {f:Int×List Vs→Int×List Vs} {h:List Vs→List Vs} (hf:∀b,f b=(b.1,h b.2)):∀(l:List (Int×List Vs)) k,lookA (l.map f) k=(lookA l k).map h
 |[],_=>rfl
 |b::l,k=>by
  rw[List.map_cons,hf]
  simp only[lookA]
  split
  ·rfl
  ·exact map_look hf l k
theorem trimS_look {s:StS} (_:(keysA s.bs).Nodup) (d k:Int):(lookA (trimS s d).bs k=none↔lookA s.bs k=none):=by
 obtain⟨h1,_,_⟩:=trimA_keys d (sortZ (keysA s.bs)) (s,0)
 rw[lookA_none,lookA_none,show keysA (trimS s d).bs=keysA s.bs from h1]
theorem rel_trim {s:StS} {r:RfS} {n:Nat} (H:Rel s r) (I:SInv s n) (d:Int):Rel (trimS s d) {r with bs:=r.bs.map (keptOf d)}:=by
 obtain⟨h1,h2,h3⟩:=trimA_keys d (sortZ (keysA s.bs)) (s,0)
 have h1:keysA (trimS s d).bs=keysA s.bs:=h1
 have h2:(trimS s d).e=s.e:=h2
 have h3:(trimS s d).t=s.t:=h3
 refine⟨by rw[h2];exact H.e,?_,fun k=>?_,?_,by rw[h3];exact H.std,by rw[h3];exact H.rows⟩
 ·rw[List.pairwise_map];exact H.up
 ·show lookA (r.bs.map (keptOf d)) k=_
  rw[map_look (h:=fun vs=>keepR (cleanR vs d) vs) (fun b=>rfl),H.lk]
  have hof:=trimS_of I.nd d k
  have hno:=trimS_look I.nd d k
  have g:=I.g k
  cases hk:lookA s.bs k with
  |none=>rw[hno.2 hk];rfl
  |some vs=>
   rw[ofK_some hk]at hof g
   cases hk2:lookA (trimS s d).bs k with
   |none=>rw[hno.1 hk2]at hk;cases hk
   |some ws=>
    rw[ofK_some hk2]at hof
    show some (keepR (cleanR vs d) vs)=some ws
    rw[keep_eq g,hof]
 ·show(r.bs.map (keptOf d)).length=_
  have:=congrArg List.length h1
  simp only[keysA,List.length_map]at this
  rw[List.length_map,H.len,this]
end Go.M
namespace Go.M
open Go Go.Proofs
set_option maxRecDepth 100000
set_option maxHeartbeats 4000000
theorem same_ok (l:List Int) (hl:l.length<1000000):VC EZ 40 0 [.sl 1 (encU8 l) false,.sl 1 (encU8 l) false] [] (RR (.s (.bool true)) 0 []):=by
 have hlen:(encU8 l).length=l.length:=by unfold encU8;rw[List.length_map]
 refine VC.enterR LZ (show EZ.func 40=some Tryz.f40 by kernel_rfl) (fun _ _=>rfl) rfl rfl [] ?_
 ((conv=>whnf)<;>repeat(with_reducible refine D1 ?_)<;>conv=>whnf)
 (first|refine⟨?_,?_⟩|refine nsplit ?_ ?_|refine bsplit ?_ ?_)<;>intro h0<;>have hz_:=True.intro<;>clear hz_
 ·exact absurd rfl h0
 ·((conv=>whnf)<;>repeat(with_reducible refine D1 ?_)<;>conv=>whnf)
  refine⟨fun k f o c=>∃i:Nat,i≤l.length∧k=l.length - i∧c=0∧f=[(0,.sl 1 (encU8 l) false),(1,.sl 1 (encU8 l) false),(5,.s (.int .i64 i))]∧o=[],⟨l.length,?_⟩,?_⟩
  ·exact⟨[],[],_,_,_,t3,⟨0,Nat.zero_le _,rfl,rfl,rfl,rfl⟩⟩
  ·rintro k f1 o1 c1 ⟨i,hi,rfl,rfl,rfl,rfl⟩
   ((conv=>whnf)<;>repeat(with_reducible refine D1 ?_)<;>conv=>whnf)
   (first|refine⟨?_,?_⟩|refine nsplit ?_ ?_|refine bsplit ?_ ?_)<;>intro h<;>have hz_:=True.intro<;>clear hz_
   ·have h:i<l.length:=by have h:(i:Int)<(((encU8 l).length:Nat):Int):=h
                          rw[hlen]at h;omega
    ((conv=>whnf)<;>repeat(with_reducible refine D1 ?_)<;>conv=>whnf)
    refine idxI h ?_
    ((conv=>whnf)<;>repeat(with_reducible refine D1 ?_)<;>conv=>whnf)
    refine idxI h ?_
    ((conv=>whnf)<;>repeat(with_reducible refine D1 ?_)<;>conv=>whnf)
    (first|refine⟨?_,?_⟩|refine nsplit ?_ ?_|refine bsplit ?_ ?_)<;>intro hv<;>have hz_:=True.intro<;>clear hz_
    ·exact absurd rfl hv
    ·((conv=>whnf)<;>repeat(with_reducible refine D1 ?_)<;>conv=>whnf)
     refine⟨l.length - (i+1),?_,by omega⟩
     exact⟨[],[],_,_,_,t3,⟨i+1,h,rfl,rfl,rfl,rfl⟩⟩
   ·((conv=>whnf)<;>repeat(with_reducible refine D1 ?_)<;>conv=>whnf)
    exact⟨[],[],_,_,_,t3,rfl,rfl,rfl⟩
theorem vsame_ok (v:Vs) (hl:v.data.length<1000000):VC EZ 34 0 [.agg (encV v),.agg (encV v)] [] (RR (.s (.bool true)) 0 []):=by
 refine VC.enterR LZ (show EZ.func 34=some Tryz.f34 by kernel_rfl) (fun _ _=>rfl) rfl rfl [] ?_
 ((conv=>whnf)<;>repeat(with_reducible refine D1 ?_)<;>conv=>whnf)
 (first|refine⟨?_,?_⟩|refine nsplit ?_ ?_|refine bsplit ?_ ?_)<;>intro h<;>have hz_:=True.intro<;>clear hz_
 ·((conv=>whnf)<;>repeat(with_reducible refine D1 ?_)<;>conv=>whnf)
  (first|refine⟨?_,?_⟩|refine nsplit ?_ ?_|refine bsplit ?_ ?_)<;>intro h2<;>have hz_:=True.intro<;>clear hz_
  ·((conv=>whnf)<;>repeat(with_reducible refine D1 ?_)<;>conv=>whnf)
   refine⟨[],[],_,_,_,_,same_ok v.data hl,t3,?_⟩
   rintro r o' c' ⟨rfl,rfl,rfl⟩
   ((conv=>whnf)<;>repeat(with_reducible refine D1 ?_)<;>conv=>whnf)
   exact⟨[],[],_,_,_,t3,rfl,rfl,rfl⟩
  ·exact absurd rfl h2
 ·exact absurd rfl h
theorem version_ok (v:Vs):VC EZ 35 0 [.agg (encV v)] [] (RR (.agg (encV v)) 0 []):=by
 refine VC.enterR LZ (show EZ.func 35=some Tryz.f35 by kernel_rfl) (fun _ _=>rfl) rfl rfl [] ?_
 ((conv=>whnf)<;>repeat(with_reducible refine D1 ?_)<;>conv=>whnf)
 exact⟨[],[],_,_,_,t3,rfl,rfl,rfl⟩
end Go.M
