/-
  Part 31 of the library that the proof leans on.
-/
import Derived.Test.YtgjfaieghmigjaaGreatDoorL30
import Derived.Test.YtgjfaieghmigjaaGreatDoorL28
namespace Go.M
open Go Go.Proofs
set_option maxHeartbeats 1000000
theorem putA_lenIs {bs:List (Int×List Vs)} {k:Int} {vs:List Vs}:(lookA bs k=none→(putA bs k vs).length=bs.length+1)∧(lookA bs k≠none→(putA bs k vs).length=bs.length):=by
 have h:=putA_length (bs:=bs) (k:=k) (vs:=vs)
 exact⟨fun q=>by rw[h,if_pos q],fun q=>by rw[h,if_neg q]⟩
theorem Rel.put {s:StS} {r:RfS} (H:Rel s r) {e:Int} (k:Int) (vs:List Vs):Rel {s with e:=e,bs:=putA s.bs k vs} {r with e:=e,bs:=insBy keyBl (k,vs) r.bs}:=by
 refine⟨rfl,insBy_up H.up,fun k'=>?_,?_,H.std,H.rows⟩
 ·rw[insBy_look H.up,lookA_put]
  split
  ·rfl
  ·exact H.lk k'
 ·show(insBy keyBl (k,vs) r.bs).length=(putA s.bs k vs).length
  have h1:=insBy_len (x:=(k,vs)) H.up
  have h2:=putA_lenIs (bs:=s.bs) (k:=k) (vs:=vs)
  by_cases h:lookA s.bs k=none
  ·rw[h1.1 (by rw[H.lk];exact h),h2.1 h,H.len]
  ·rw[h1.2 (by rw[H.lk];exact h),h2.2 h,H.len]
theorem outC_code (u:UpR) (ver:Int) (b:Bool):0≤(outC u ver b).1∧(outC u ver b).1≤255:=by
 unfold outC
 repeat' split
 all_goals simp
theorem okU_all {u:UpR} (h:chkU u=0) (hu:UOk u):1≤u.client∧u.client≤6∧1≤u.num∧1≤u.seq:=by
 have h1:=hu.num
 have h2:=hu.seq
 unfold chkU okU at h
 split at h
 ·split at h
  ·omega
  ·split at h
   ·rename_i q;simp at q;omega
   ·omega
 ·omega
theorem Rel.row {s:StS} {r:RfS} (H:Rel s r) {x:RowS} (h1:1≤x.client∧x.client≤6) (h2:1≤x.num):Std 1 (lstT (s.t.put x.client x))∧insBy keyRow x r.rows=rowsT (s.t.put x.client x):=by
 rw[put_lst s.t h1,H.rows]
 refine⟨H.std.set (by omega) h1.1 (by show x.client<1+6;omega),?_⟩
 rw[H.std.ins (by omega) h1.1 (by show x.client<1+6;omega)]
 show _=(lstT (s.t.put x.client x)).filter nz
 rw[put_lst s.t h1]
theorem rel_apply {s:StS} {r:RfS} (H:Rel s r) (u:UpR) (hu:UOk u):(applyS s u).1=((applyR r u).1.2,(applyR r u).2)∧Rel (applyS s u).2 (applyR r u).1.1:=by
 unfold applyS applyR
 by_cases h0:chkU u=0
 ·rw[if_neg (not_not_intro h0),if_neg (not_not_intro h0),H.e]
  by_cases h1:u.seq - 1=s.e
  ·rw[if_neg (not_not_intro h1),if_neg (not_not_intro h1)]
   have hj:judgeR r.rows u.client u.num=judgeC s.t u.client u.num:=by rw[H.rows];exact judge_rows H.std _ _ hu.num.1
   rw[hj]
   by_cases h2:judgeC s.t u.client u.num=0
   ·rw[if_neg (not_not_intro h2),if_neg (not_not_intro h2)]
    obtain⟨c1,c2,c3,c4⟩:=okU_all h0 hu
    have ho:outRf r u=outS s u:=by
     show outC u (lastV (ofR r u.key)).ver (decide (r.bs.length<192))=outC u (lastV (ofK s u.key)).ver (decide (s.bs.length<192))
     rw[H.of,H.len]
    have hrow:rowRf r u=rowS s u:=by unfold rowRf rowS;rw[ho]
    have hset:setC s.t (rowS s u)=0:=by
     have:=outC_code u (lastV (ofK s u.key)).ver (roomS s)
     unfold setC
     rw[if_neg (by unfold fineB;exact fun q=>of_decide_eq_false q ⟨⟨c1,c2⟩,c3,c4,this.1,this.2⟩),if_neg (not_not_intro h2)]
    have hst:setT s.t (rowS s u)=s.t.put u.client (rowS s u):=by unfold setT;rw[if_pos hset]
    obtain⟨g1,g2⟩:=H.row (x:=rowS s u) ⟨c1,c2⟩ c3
    refine⟨by rw[hset,hrow],?_⟩
    show Rel {wrote s u with t:=setT s.t (rowS s u)} ⟨u.seq,wroteRf r u,insBy keyRow (rowRf r u) r.rows⟩
    rw[hst,hrow,g2]
    unfold wrote wroteRf
    rw[ho]
    by_cases hm:(outS s u).2.2=true
    ·rw[if_pos hm,if_pos hm,H.of]
     have:=H.put (e:=u.seq) u.key (putB (ofK s u.key) ⟨(outS s u).2.1,u.seq,u.data⟩)
     exact⟨this.e,this.up,this.lk,this.len,g1,rfl⟩
    ·rw[if_neg hm,if_neg hm]
     exact⟨rfl,H.up,H.lk,H.len,g1,rfl⟩
   ·rw[if_pos h2,if_pos h2]
    exact⟨rfl,rfl,H.up,H.lk,H.len,H.std,H.rows⟩
  ·rw[if_pos h1,if_pos h1];exact⟨rfl,H⟩
 ·rw[if_pos h0,if_pos h0];exact⟨rfl,H⟩
theorem cleanR_app {A B:List Vs} {d:Int} (hA:∀a∈A,a.seq≤d) (hB:∀b∈B,d<b.seq):cleanR (A++B) d=lastV A:=by
 unfold cleanR
 rw[List.filter_append,List.filter_eq_self.2 (fun a m=>by simpa using hA a m),List.filter_eq_nil_iff.2 (fun b m=>by have:=hB b m;simp;omega),List.append_nil]
theorem clean_eq {e:Int} {vs:List Vs} (g:Good e vs) (d:Int):atV vs (cleanI vs d)=cleanR vs d:=by
 obtain⟨A,B,rfl,h1,h2⟩:=g.split_seq d
 rw[clean_app h1 h2,cleanR_app h1 h2,atV_last]
theorem pick_eq {e:Int} {vs:List Vs} (g:Good e vs) (v d:Int):pickV vs v d=pickR vs v d:=by
 obtain⟨A,B,hab,h1,h2⟩:=g.split_ver v
 have hc:=clean_eq g d
 have hp:atV vs (pickI vs v)=B.headD zeroVs:=by rw[hab,pick_app h1 h2,atV_mid]
 unfold pickV pickR
 rw[hp,hc]
 have hA:A.find? (fun x=>decide (x.ver=v))=none:=List.find?_eq_none.2 fun a m=>by have:=h1 a m;simp;omega
 cases B with
 |nil=>
  rw[show vs.find? (fun x=>decide (x.ver=v))=none from by rw[hab,List.find?_append,hA];rfl]
  show(if(0:Int)=v then zeroVs else _)=(if v<(cleanR vs d).ver then cleanR vs d else zeroVs)
  split
  ·rename_i q
   have:vs=[]:=by
    rw[hab,List.append_nil]
    cases A with
    |nil=>rfl
    |cons a A=>have q1:=h1 a (by simp);have q2:=(g.v a (by rw[hab];simp)).1;omega
   rw[this]
   show zeroVs=if v<(lastV []).ver then lastV []else zeroVs
   rw[lastV_nil,if_neg (by show¬v<0;omega)]
  ·rfl
 |cons b B=>
  show(if b.ver=v then b else _)=_
  split
  ·rename_i q
   rw[show vs.find? (fun x=>decide (x.ver=v))=some b from by rw[hab,List.find?_append,hA,List.find?_cons_of_pos (by simpa using q)];rfl]
  ·rename_i q
   have hb:=h2 b (by simp)
   have hu:=g.up
   rw[hab,List.pairwise_append,List.pairwise_cons]at hu
   rw[show vs.find? (fun x=>decide (x.ver=v))=none from by
    rw[hab,List.find?_append,hA,List.find?_cons_of_neg (by simpa using q)]
    exact List.find?_eq_none.2 fun a m=>by have:=(hu.2.1.1 a m).1;simp;omega]
theorem keep_eq {e:Int} {vs:List Vs} (g:Good e vs) (d:Int):keepR (cleanR vs d) vs=vs.drop (trimN vs d):=by
 obtain⟨A,B,rfl,h1,h2⟩:=g.split_seq d
 rw[cleanR_app h1 h2]
 have ht:trimN (A++B) d=A.length - 1:=by unfold trimN;rw[clean_app h1 h2];omega
 rw[ht]
 unfold keepR
 rcases two_ends A with rfl |⟨ws,w,rfl⟩
 ·rw[lastV_nil]
  show _=B
  rw[List.nil_append,List.filter_eq_self.2 fun b m=>by have:=(g.v b (by simpa using m)).2.1;show decide (0≤b.seq)=true;simp;omega]
 ·rw[lastV_end]
  have hu:=g.up
  rw[List.pairwise_append,List.pairwise_append]at hu
  rw[List.length_append,List.length_singleton,Nat.add_sub_cancel,List.append_assoc,List.drop_left',List.filter_append,List.filter_eq_nil_iff.2 (fun a m=>by have:=(hu.1.2.2 a m w (by simp)).2;simp;omega),List.nil_append,
   List.filter_eq_self.2 (fun a m=>by
    rcases List.mem_append.1 m with m|m
    ·simp only[List.mem_singleton]at m;subst m;simp
    ·have:=h1 w (by simp);have:=h2 a m;simp;omega)]
  rfl
theorem map_look {f:Int×List Vs→Int×List Vs} {h:List Vs→List Vs} (hf:∀b,f b=(b.1,h b.2)):∀(l:List (Int×List Vs)) k,lookA (l.map f) k=(lookA l k).map h
 |[],_=>rfl
 |b::l,k=>by
  rw[List.map_cons,hf]
  simp only[lookA]
  split
  ·rfl
  ·exact map_look hf l k
theorem trimS_look {s:StS} (_:(keysA s.bs).Nodup) (d k:Int):(lookA (trimS s d).bs k=none↔lookA s.bs k=none):=by
 obtain⟨h1,_,_⟩:=trimA_keys d (sortZ (keysA s.bs)) (s,0)
 rw[lookA_none,lookA_none,show keysA (trimS s d).bs=keysA s.bs from h1]
theorem rel_trim {s:StS} {r:RfS} {n:Nat} (H:Rel s r) (I:SInv s n) (d:Int):Rel (trimS s d) {r with bs:=r.bs.map (keptOf d)}:=by
 obtain⟨h1,h2,h3⟩:=trimA_keys d (sortZ (keysA s.bs)) (s,0)
 have h1:keysA (trimS s d).bs=keysA s.bs:=h1
 have h2:(trimS s d).e=s.e:=h2
 have h3:(trimS s d).t=s.t:=h3
 refine⟨by rw[h2];exact H.e,?_,fun k=>?_,?_,by rw[h3];exact H.std,by rw[h3];exact H.rows⟩
 ·rw[List.pairwise_map];exact H.up
 ·show lookA (r.bs.map (keptOf d)) k=_
  rw[map_look (h:=fun vs=>keepR (cleanR vs d) vs) (fun b=>rfl),H.lk]
  have hof:=trimS_of I.nd d k
  have hno:=trimS_look I.nd d k
  have g:=I.g k
  cases hk:lookA s.bs k with
  |none=>rw[hno.2 hk];rfl
  |some vs=>
   rw[ofK_some hk]at hof g
   cases hk2:lookA (trimS s d).bs k with
   |none=>rw[hno.1 hk2]at hk;cases hk
   |some ws=>
    rw[ofK_some hk2]at hof
    show some (keepR (cleanR vs d) vs)=some ws
    rw[keep_eq g,hof]
 ·show(r.bs.map (keptOf d)).length=_
  have:=congrArg List.length h1
  simp only[keysA,List.length_map]at this
  rw[List.length_map,H.len,this]
end Go.M
namespace Go.M
open Go Go.Proofs
set_option maxRecDepth 100000
set_option maxHeartbeats 4000000
theorem same_ok (l:List Int) (hl:l.length<1000000):VC EZ 40 0 [.sl 1 (encU8 l) false,.sl 1 (encU8 l) false] [] (RR (.s (.bool true)) 0 []):=by
 have hlen:(encU8 l).length=l.length:=by unfold encU8;rw[List.length_map]
 refine VC.enterR LZ (show EZ.func 40=some Tryz.f40 by kernel_rfl) (fun _ _=>rfl) rfl rfl [] ?_
 conv=>whnf
 (first|refine⟨?_,?_⟩|refine nsplit ?_ ?_|refine bsplit ?_ ?_)<;>intro h0<;>have hz_:=True.intro<;>clear hz_
 ·exact absurd rfl h0
 ·conv=>whnf
  refine⟨fun k f o c=>∃i:Nat,i≤l.length∧k=l.length - i∧c=0∧f=[(0,.sl 1 (encU8 l) false),(1,.sl 1 (encU8 l) false),(5,.s (.int .i64 i))]∧o=[],⟨l.length,?_⟩,?_⟩
  ·exact⟨[],[],_,_,_,t3,⟨0,Nat.zero_le _,rfl,rfl,rfl,rfl⟩⟩
  ·rintro k f1 o1 c1 ⟨i,hi,rfl,rfl,rfl,rfl⟩
   conv=>whnf
   (first|refine⟨?_,?_⟩|refine nsplit ?_ ?_|refine bsplit ?_ ?_)<;>intro h<;>have hz_:=True.intro<;>clear hz_
   ·have h:i<l.length:=by have h:(i:Int)<(((encU8 l).length:Nat):Int):=h
                          rw[hlen]at h;omega
    ((conv=>whnf)<;>repeat(with_reducible refine D1 ?_)<;>conv=>whnf)
    refine idxI h ?_
    conv=>whnf
    refine idxI h ?_
    conv=>whnf
    (first|refine⟨?_,?_⟩|refine nsplit ?_ ?_|refine bsplit ?_ ?_)<;>intro hv<;>have hz_:=True.intro<;>clear hz_
    ·exact absurd rfl hv
    ·((conv=>whnf)<;>repeat(with_reducible refine D1 ?_)<;>conv=>whnf)
     refine⟨l.length - (i+1),?_,by omega⟩
     exact⟨[],[],_,_,_,t3,⟨i+1,h,rfl,rfl,rfl,rfl⟩⟩
   ·conv=>whnf
    exact⟨[],[],_,_,_,t3,rfl,rfl,rfl⟩
theorem vsame_ok (v:Vs) (hl:v.data.length<1000000):VC EZ 34 0 [.agg (encV v),.agg (encV v)] [] (RR (.s (.bool true)) 0 []):=by
 refine VC.enterR LZ (show EZ.func 34=some Tryz.f34 by kernel_rfl) (fun _ _=>rfl) rfl rfl [] ?_
 conv=>whnf
 (first|refine⟨?_,?_⟩|refine nsplit ?_ ?_|refine bsplit ?_ ?_)<;>intro h<;>have hz_:=True.intro<;>clear hz_
 ·conv=>whnf
  (first|refine⟨?_,?_⟩|refine nsplit ?_ ?_|refine bsplit ?_ ?_)<;>intro h2<;>have hz_:=True.intro<;>clear hz_
  ·conv=>whnf
   refine⟨[],[],_,_,_,_,same_ok v.data hl,t3,cR ?_⟩
   conv=>whnf
   exact⟨[],[],_,_,_,t3,rfl,rfl,rfl⟩
  ·exact absurd rfl h2
 ·exact absurd rfl h
end Go.M
