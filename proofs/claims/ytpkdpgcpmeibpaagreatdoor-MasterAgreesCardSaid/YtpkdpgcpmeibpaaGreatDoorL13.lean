/-
  Part 13 of the library that the proof leans on.
-/
import Derived.Test.YtpkdpgcpmeibpaaGreatDoorL12
import Derived.Test.YtpkdpgcpmeibpaaGreatDoorProg
import Derived.Shelf.SortM.Plain
import Derived.Shelf.SortM.SortNone
import Derived.KernelRfl
namespace Go.M.Small
open Go Go.Proofs Go.M
set_option maxRecDepth 100000
noncomputable def E0:=eL Tryz.prog (L1 [] [])
noncomputable def T0:=tE E0 []
theorem Pu:[].all (F5 E0)=true:=by kernel_rfl
theorem L0:cD T0 E0:=ZS (fun t z h=>by
 simp only[E0,eL,Option.bind_eq_some_iff,aj,Option.some.injEq]at h;obtain⟨i,h1,z',h2,h3,rfl⟩:=h;exact h3) Pu
@[reducible] def encI (n:Int):List TV:=[.s (.int .i64 n)]
def least:List Int→Int→Int
 |[],m=>m
 |x::l,m=>least l (if x<m then x else m)
def qt (L:List Int) (i:Nat):Int:=least ((L.take i).drop 1) (L.headD 0)
theorem zD:∀(l:List Int) (m y:Int),least (l++[y]) m=if y<least l m then y else least l m
 |[],_,_=>rfl
 |_::l,_,y=>zD l _ y
theorem Gi (L:List Int) (i:Nat) (h1:1≤i) (h:i<L.length):qt L (i+1)=if L[i]<qt L i then L[i]else qt L i:=by
 unfold qt;rw[List.take_succ_eq_append_getElem h,List.drop_append_of_le_length (by simp;omega),zD]
theorem Ws (L:List Int) (h0:0<L.length) (hl:L.length≤1000000):VC E0 223 0 [.sl 1 (L.map encI) false] [] (fun r _ _=>r= .s (.int .i64 (qt L L.length))):=by
 refine en L0 Tryz.f223 ?_;refine sp ?_ ?_<;>intro h
 ·exact absurd h (by simp;omega)
 ·refine wh ?_;refine eT h0 ?_;refine wh ?_;refine⟨fun k f o c=>∃i:Nat,1≤i∧i≤L.length∧k=L.length - i∧c=0∧f=[(0,.sl 1 (L.map encI) false),(3,.s (.int .i64 (qt L i))),(4,.s (.int .i64 i))]∧o=[],⟨L.length - 1,?_⟩,?_⟩
  ·refine⟨[],[],?_⟩
   iterate 3 constructor
   refine⟨⟨?_,?_,?_⟩,⟨1,Nat.le_refl _,h0,rfl,rfl,rfl,rfl⟩⟩
   all_goals(repeat' first|exact LF|constructor)
   all_goals(refine Lz.int ?_;cases L with
    |nil=>simp at h0
    |cons x l=>rfl)
  ·rintro k f1 o1 c1 ⟨i,h1,hi,rfl,rfl,rfl,rfl⟩;refine wh ?_;refine sp ?_ ?_<;>intro h
   ·have h:=dZ.1 h;refine wh ?_;refine eT h ?_;refine wh ?_;refine⟨L.length - (i+1),?_,om⟩;refine⟨[],[],?_⟩
    iterate 3 constructor
    refine⟨⟨?_,?_,?_⟩,⟨i+1,om,h,rfl,rfl,rfl,rfl⟩⟩
    all_goals(repeat' first|exact LF|constructor)
    all_goals(refine Lz.int ?_;rw[Gi L i h1 h])
   ·have h:=mt dZ.2 h;refine wh ?_;have e:i=L.length:=by omega
    subst e;exact⟨[],[],_,_,_,t3,rfl⟩
theorem least_le:∀(l:List Int) (m:Int),least l m≤m∧(∀x∈l,least l m≤x)∧(least l m=m∨least l m∈l)
 |[],m=>⟨Int.le_refl _,by simp,.inl rfl⟩
 |x::l,m=>by
  obtain⟨h1,h2,h3⟩:=least_le l (if x<m then x else m);have e:least (x::l) m=least l (if x<m then x else m):=rfl;refine⟨?_,fun y hy=>?_,?_⟩
  ·rw[e];by_cases hx:x<m
   ·rw[if_pos hx]at h1 ⊢;omega
   ·rw[if_neg hx]at h1 ⊢;omega
  ·rw[e];rcases List.mem_cons.1 hy with rfl |hy
   ·by_cases hx:y<m
    ·rw[if_pos hx]at h1 ⊢;omega
    ·rw[if_neg hx]at h1 ⊢;omega
   ·exact h2 y hy
  ·rw[e];rcases h3 with h3|h3
   ·by_cases hx:x<m
    ·rw[if_pos hx]at h3 ⊢;rw[h3];exact .inr List.mem_cons_self
    ·rw[if_neg hx]at h3 ⊢;exact .inl h3
   ·exact .inr (List.mem_cons_of_mem _ h3)
def xu (L:List Int):Int:=qt L L.length
theorem vO {L:List Int} (h:0<L.length):xu L∈L∧∀x∈L,xu L≤x:=by
 cases L with
 |nil=>simp at h
 |cons a l=>
  have e:xu (a::l)=least l a:=by simp[xu,qt]
  rw[e];obtain⟨h1,h2,h3⟩:=least_le l a;refine⟨?_,fun x hx=>?_⟩
  ·rcases h3 with h3|h3
   ·rw[h3];exact List.mem_cons_self
   ·exact List.mem_cons_of_mem _ h3
  ·rcases List.mem_cons.1 hx with rfl |hx
   ·exact h1
   ·exact h2 x hx
theorem Ma {L M:List Int} (h:0<L.length) (p:L.Perm M):xu L=xu M:=by
 obtain⟨a1,a2⟩:=vO h;obtain⟨b1,b2⟩:=vO (L:=M) (by rw[←p.length_eq];exact h);have:=a2 _ (p.mem_iff.2 b1);have:=b2 _ (p.mem_iff.1 a1);omega
end Go.M.Small
namespace Go.M
open Go Go.Proofs Go.RowKit Go.Maps Go.Sort Go.Shelf
set_option maxRecDepth 100000
def qu:Go.Shelf.Ren:=⟨fun |7=>222|10=>248|n=>n,fun |23=>84|26=>3|3=>98|28=>150|0=>0|27=>149|33=>49|4=>4|n=>n,fun |n=>n⟩
theorem Ku:Go.Proofs.SlLaysZI.n7 Tryz.prog qu where
 mixed:=by kernel_rfl
 f7:=⟨Tryz.f222.name,by kernel_rfl,Tryz.func222.trans (congrArg some (by kernel_rfl))⟩
 f10:=⟨Tryz.f248.name,by kernel_rfl,Tryz.func248.trans (congrArg some (by kernel_rfl))⟩
 t0:=Tryz.underlying0
 a0:=Tryz.isAgg0
 z0:=Tryz.sizeOf0
 v0:=Tryz.zeroValue0
 t4:=Tryz.underlying4
 a4:=Tryz.isAgg4
 z4:=Tryz.sizeOf4
 v4:=Tryz.zeroValue4
 t23:=Tryz.underlying84
 a23:=Tryz.isAgg84
 z23:=Tryz.sizeOf84
 v23:=Tryz.zeroValue84
 t26:=Tryz.underlying3
 a26:=Tryz.isAgg3
 z26:=Tryz.sizeOf3
 v26:=Tryz.zeroValue3
 t27:=Tryz.underlying149
 a27:=Tryz.isAgg149
 z27:=Tryz.sizeOf149
 v27:=Tryz.zeroValue149
 t28:=Tryz.underlying150
 a28:=Tryz.isAgg150
 z28:=Tryz.sizeOf150
 v28:=Tryz.zeroValue150
 t33:=Tryz.underlying49
 a33:=Tryz.isAgg49
 z33:=Tryz.sizeOf49
 v33:=Tryz.zeroValue49
def eU:Go.Shelf.Ren:=⟨fun |6=>106|8=>135|9=>145|11=>184|13=>201|12=>200|23=>240|24=>241|14=>231|15=>232|16=>233|17=>234|18=>235|19=>236|20=>237|21=>238|22=>239|25=>252|26=>253|27=>254|28=>255|29=>256|30=>257|31=>259|n=>n,fun |26=>3|28=>150|24=>41|0=>0|3=>3|37=>196|48=>40|50=>32|4=>4|40=>223|39=>222|45=>228|5=>5|9=>9|51=>243|55=>155|57=>248|58=>249|33=>49|n=>n,fun |n=>n⟩
theorem od:Go.Proofs.SlLaysZI.n6 Tryz.prog eU where
 mixed:=by kernel_rfl
 f6:=⟨Tryz.f106.name,by kernel_rfl,Tryz.func106.trans (congrArg some (by kernel_rfl))⟩
 f8:=⟨Tryz.f135.name,by kernel_rfl,Tryz.func135.trans (congrArg some (by kernel_rfl))⟩
 f11:=⟨Tryz.f184.name,by kernel_rfl,Tryz.func184.trans (congrArg some (by kernel_rfl))⟩
 t0:=Tryz.underlying0
 a0:=Tryz.isAgg0
 z0:=Tryz.sizeOf0
 v0:=Tryz.zeroValue0
 t24:=Tryz.underlying41
 a24:=Tryz.isAgg41
 z24:=Tryz.sizeOf41
 v24:=Tryz.zeroValue41
 t26:=Tryz.underlying3
 a26:=Tryz.isAgg3
 z26:=Tryz.sizeOf3
 v26:=Tryz.zeroValue3
 t28:=Tryz.underlying150
 a28:=Tryz.isAgg150
 z28:=Tryz.sizeOf150
 v28:=Tryz.zeroValue150
 i26:=by kernel_rfl
def Gj:Go.Shelf.Ren:=⟨fun |5=>145|8=>201|7=>200|19=>240|20=>241|10=>231|11=>232|12=>233|13=>234|14=>235|15=>236|16=>237|17=>238|18=>239|30=>252|31=>253|32=>254|33=>255|34=>256|35=>257|40=>259|n=>n,fun |23=>41|25=>3|3=>3|32=>196|22=>41|0=>0|44=>40|46=>32|4=>4|36=>223|35=>222|41=>228|5=>5|9=>9|53=>243|57=>155|63=>248|64=>249|n=>n,fun |n=>n⟩
theorem Kv:Go.Proofs.SlLaysM.n5 Tryz.prog Gj where
 mixed:=by kernel_rfl
 f5:=⟨Tryz.f145.name,by kernel_rfl,Tryz.func145.trans (congrArg some (by kernel_rfl))⟩
 f7:=⟨Tryz.f200.name,by kernel_rfl,Tryz.func200.trans (congrArg some (by kernel_rfl))⟩
 f8:=Tryz.func201.trans (congrArg some (by kernel_rfl))
 f10:=⟨Tryz.f231.name,by kernel_rfl,Tryz.func231.trans (congrArg some (by kernel_rfl))⟩
 f11:=⟨Tryz.f232.name,by kernel_rfl,Tryz.func232.trans (congrArg some (by kernel_rfl))⟩
 f12:=⟨Tryz.f233.name,by kernel_rfl,Tryz.func233.trans (congrArg some (by kernel_rfl))⟩
 f13:=⟨Tryz.f234.name,by kernel_rfl,Tryz.func234.trans (congrArg some (by kernel_rfl))⟩
 f14:=⟨Tryz.f235.name,by kernel_rfl,Tryz.func235.trans (congrArg some (by kernel_rfl))⟩
 f15:=⟨Tryz.f236.name,by kernel_rfl,Tryz.func236.trans (congrArg some (by kernel_rfl))⟩
 f16:=⟨Tryz.f237.name,by kernel_rfl,Tryz.func237.trans (congrArg some (by kernel_rfl))⟩
 f17:=⟨Tryz.f238.name,by kernel_rfl,Tryz.func238.trans (congrArg some (by kernel_rfl))⟩
 f18:=⟨Tryz.f239.name,by kernel_rfl,Tryz.func239.trans (congrArg some (by kernel_rfl))⟩
 f19:=Tryz.func240.trans (congrArg some (by kernel_rfl))
 f20:=Tryz.func241.trans (congrArg some (by kernel_rfl))
 f30:=⟨Tryz.f252.name,by kernel_rfl,Tryz.func252.trans (congrArg some (by kernel_rfl))⟩
 f31:=Tryz.func253.trans (congrArg some (by kernel_rfl))
 f32:=Tryz.func254.trans (congrArg some (by kernel_rfl))
 f33:=⟨Tryz.f255.name,by kernel_rfl,Tryz.func255.trans (congrArg some (by kernel_rfl))⟩
 f34:=⟨Tryz.f256.name,by kernel_rfl,Tryz.func256.trans (congrArg some (by kernel_rfl))⟩
 f35:=⟨Tryz.f257.name,by kernel_rfl,Tryz.func257.trans (congrArg some (by kernel_rfl))⟩
 f40:=⟨Tryz.f259.name,by kernel_rfl,Tryz.func259.trans (congrArg some (by kernel_rfl))⟩
 t0:=Tryz.underlying0
 a0:=Tryz.isAgg0
 z0:=Tryz.sizeOf0
 v0:=Tryz.zeroValue0
 t3:=Tryz.underlying3
 a3:=Tryz.isAgg3
 z3:=Tryz.sizeOf3
 v3:=Tryz.zeroValue3
 t4:=Tryz.underlying4
 a4:=Tryz.isAgg4
 z4:=Tryz.sizeOf4
 v4:=Tryz.zeroValue4
 t5:=Tryz.underlying5
 a5:=Tryz.isAgg5
 z5:=Tryz.sizeOf5
 v5:=Tryz.zeroValue5
 t9:=Tryz.underlying9
 a9:=Tryz.isAgg9
 z9:=Tryz.sizeOf9
 v9:=Tryz.zeroValue9
 t22:=Tryz.underlying41
 a22:=Tryz.isAgg41
 z22:=Tryz.sizeOf41
 v22:=Tryz.zeroValue41
 t23:=Tryz.underlying41
 a23:=Tryz.isAgg41
 z23:=Tryz.sizeOf41
 v23:=Tryz.zeroValue41
 t25:=Tryz.underlying3
 a25:=Tryz.isAgg3
 z25:=Tryz.sizeOf3
 v25:=Tryz.zeroValue3
 t32:=Tryz.underlying196
 a32:=Tryz.isAgg196
 z32:=Tryz.sizeOf196
 v32:=Tryz.zeroValue196
 t35:=Tryz.underlying222
 a35:=Tryz.isAgg222
 z35:=Tryz.sizeOf222
 v35:=Tryz.zeroValue222
 t36:=Tryz.underlying223
 a36:=Tryz.isAgg223
 z36:=Tryz.sizeOf223
 v36:=Tryz.zeroValue223
 t41:=Tryz.underlying228
 a41:=Tryz.isAgg228
 z41:=Tryz.sizeOf228
 v41:=Tryz.zeroValue228
 t44:=Tryz.underlying40
 a44:=Tryz.isAgg40
 z44:=Tryz.sizeOf40
 v44:=Tryz.zeroValue40
 t46:=Tryz.underlying32
 a46:=Tryz.isAgg32
 z46:=Tryz.sizeOf32
 v46:=Tryz.zeroValue32
 t53:=Tryz.underlying243
 a53:=Tryz.isAgg243
 z53:=Tryz.sizeOf243
 v53:=Tryz.zeroValue243
 t57:=Tryz.underlying155
 a57:=Tryz.isAgg155
 z57:=Tryz.sizeOf155
 v57:=Tryz.zeroValue155
 t63:=Tryz.underlying248
 a63:=Tryz.isAgg248
 z63:=Tryz.sizeOf248
 v63:=Tryz.zeroValue248
 t64:=Tryz.underlying249
 a64:=Tryz.isAgg249
 z64:=Tryz.sizeOf249
 v64:=Tryz.zeroValue249
theorem sP (m:Nat):AnyZI.SortsIn Tryz.prog eU Fence.wide m:=
 ⟨fun dw off cap ss W hH IP gB=>callsIn_wide.2 (AnyM.slices_Sort_int Kv dw off cap ss W hH IP gB),fun p cap W=>callsIn_wide.2 (AnyM.slices_Sort_int_none Kv p cap W)⟩
theorem DT:jP Tryz.prog 106 248:=
 o6 (ρ:=eU) (σ:=qu) od {Ku with} sP (enters_of Tryz.func145 (by kernel_rfl) rfl) (enters_of Tryz.func248 (by kernel_rfl) rfl)
set_option maxRecDepth 1000000
theorem xw:jk Tryz.prog 135 248:=
 py (ρ:=eU) (σ:=qu) {od with} {Ku with} (enters_of Tryz.func248 (by kernel_rfl) rfl)
def vP:SQ:=fun pre cs=>match pre,cs with
 |[],_::_=>bO (Nat.ble cs.length 1000000) (some (.int .i64 (Small.xu cs)))
 |_,_=>none
theorem Gk:Tryz.prog.follows .mixedOrders=true:=by kernel_rfl
theorem Kw (base B:Nat):ik Tryz.prog Small.E0 base B:=
 Kr (fun g hg=>by simp at hg) (fun g lp hi=>by simp[look]at hi) base B
theorem Wt:Kt Tryz.prog 223 vP:=by
 intro pre cs v _ hv;unfold vP at hv;split at hv
 ·rename_i a l;simp only[aj,aW,Option.some.injEq]at hv;obtain⟨hl,rfl⟩:=hv;refine⟨rfl,fun m hp=>⟨fun m=>.int .i64 (Small.xu m),fun m=>0<m.length∧m.length≤1000000,?_,?_,?_⟩⟩
  ·exact Ca (E:=Small.E0) (yx _ _) Kw Gk (fun _=>rfl) (by simp) (fun _ _=>rfl) fun m hm=>Small.Ws m hm.1 hm.2
  ·have:=hp.length_eq;simp only[List.length_cons]at this hl ⊢;exact⟨om,om⟩
  ·exact congrArg _ (Small.Ma (by rw[hp.length_eq];simp) hp)
 ·cases hv
end Go.M
namespace Go.M
open Go
def vQ (s:Nat):Nat:=s % 2+s / 2 % 2+s / 4 % 2+s / 8 % 2+s / 16 % 2+s / 32 % 2
def bI (s:Nat) (L:List Int):Nat:=L.foldl (fun s i=>s|||2 ^ i.toNat) s
def m5 (x:Int):Prop:=1≤x∧x≤5
theorem zE {x:Int} (h:m5 x):x=1∨x=2∨x=3∨x=4∨x=5:=by unfold m5 at h;omega
def rM (s:Nat):Prop:=s<64∧s % 2=0
instance (s:Nat):Decidable (rM s):=inferInstanceAs (Decidable (s<64∧s % 2=0))
theorem Z7 {s:Nat} (h:rM s) {x:Int} (hx:m5 x):rM (s|||2 ^ x.toNat):=by
 have:∀s<64,s % 2=0→∀k<6,0<k→(s|||2 ^ k)<64∧(s|||2 ^ k) % 2=0:=by decide+kernel
 unfold m5 at hx;exact this s h.1 h.2 x.toNat om om
theorem jl:∀{L:List Int} {s:Nat},rM s→(∀x∈L,m5 x)→rM (bI s L)
 |[],_,h,_=>h
 |x::L,_,h,hL=>jl (L:=L) (Z7 h (hL x List.mem_cons_self)) fun y hy=>hL y (List.mem_cons_of_mem _ hy)
theorem zF (s:Nat) (L:List Int) (x:Int):bI s (L++[x])=bI s L|||2 ^ x.toNat:=by simp[bI]
theorem IZ {L M:List Int} (p:L.Perm M):∀s,bI s L=bI s M:=by
 induction p with
 |nil=>intro s;rfl
 |cons x _ ih=>intro s;exact ih _
 |swap x y l=>intro s;simp only[bI,List.foldl_cons];rw[Nat.or_assoc,Nat.or_comm (2 ^ y.toNat),←Nat.or_assoc]
 |trans _ _ AQ AS=>intro s;rw[AQ,AS]
theorem DU:∀s:Nat,s<64→IntKind.u64.wrap ((BitVec.ofInt IntKind.u64.bits (s:Int)&&& ~~~ BitVec.ofInt IntKind.u64.bits 1).toNat:Int)=((s / 2*2:Nat):Int):=by decide+kernel
theorem UL:∀s:Nat,s<64→∀k:Nat,k<6→IntKind.u64.wrap ((BitVec.ofInt IntKind.u64.bits (s:Int)|||BitVec.ofInt IntKind.u64.bits (IntKind.u64.wrap (1*2 ^ k))).toNat:Int)=((s|||2 ^ k:Nat):Int):=by decide+kernel
theorem uq:∀s:Nat,s<64→∀k:Nat,k<7→IntKind.u64.wrap ((BitVec.ofInt IntKind.u64.bits (s:Int)&&& BitVec.ofInt IntKind.u64.bits (IntKind.u64.wrap (IntKind.u64.wrap (1*2 ^ k) - 1))).toNat:Int)=((s&&& (2 ^ k - 1):Nat):Int):=by decide+kernel
def iC (s:Nat) (n:Int):Bool:=decide (n.toNat / 2+1≤vQ ((s&&& (2 ^ (n.toNat+1) - 1)) / 2*2))
end Go.M
namespace Go.M.Small
open Go Go.Proofs Go.M
set_option maxRecDepth 100000
set_option maxHeartbeats 2000000
@[reducible] def aR (n:Int):List TV:=[.s (.int .i64 n)]
def qw (n:Int):Bool:=decide (n≥1∧n≤63)
theorem vR (n:Int):VC E0 138 0 [.s (.int .i64 n)] [] (RR (.s (.bool (qw n))) 0 []):=by
 refine en L0 Tryz.f138 ?_
 repeat'(first|((first|(refine⟨fun h=>?_,fun h=>?_⟩)|(refine cU (fun h=>?_) (fun h=>?_))|(refine cS (fun h=>?_) (fun h=>?_)))<;>(conv=>whnf)))
 all_goals(refine⟨[],[],[],_,_,⟨?_,.nil,rfl⟩,rfl,rfl,rfl⟩)
 all_goals(refine .s (Lz.of (ah ?_));simp[qw, *];try omega)
theorem DV (s:Nat) (L:List Int) (hs:rM s) (hL:∀x∈L,m5 x) (hl:L.length<1000000):VC E0 100 0 [.s (.int .u64 s),.sl 1 (L.map aR) false] [] (RR (.s (.int .u64 (bI s L))) 0 []):=by
 refine en L0 Tryz.f100 ?_;refine⟨fun k f o c=>∃j:Nat,j≤L.length∧k=L.length - j∧c=0∧f=[(0,.s (.int .u64 (bI s (L.take j)))),(9,.sl 1 (L.map aR) false),(10,.s (.int .i64 L.length)),(11,.s (.int .i64 j))]∧o=[],⟨L.length,?_⟩,?_⟩
 ·refine⟨[],[],?_⟩
  iterate 3 constructor
  refine⟨⟨?_,?_,?_⟩,⟨0,Nat.zero_le _,rfl,rfl,rfl,rfl⟩⟩
  all_goals(repeat' first|exact LF|constructor)
  ·refine Lz.int ?_;have:=DU s hs.1;have h2:=hs.2;rw[show s / 2*2=s by omega]at this;exact this
  all_goals exact Lz.of (by simp[goInt])
 ·rintro k f1 o1 c1 ⟨j,hj,rfl,rfl,rfl,rfl⟩;refine wh ?_;refine sp ?_ ?_<;>intro h
  ·have h:j<L.length:=by simpa using h
   have hw:=jl hs (fun x hx=>hL x (List.mem_of_mem_take hx)) (L:=L.take j);have wo:bI s (L.take (j+1))=bI s (L.take j)|||2 ^ L[j].toNat:=by rw[List.take_succ_eq_append_getElem h,zF]
   have hx:=zE (hL _ (List.getElem_mem h));generalize Wu:bI s (L.take j)=w at*
   refine wh ?_;refine eT h ?_;generalize LN:L[j]=x at*
   rcases hx with rfl |rfl |rfl |rfl |rfl
   all_goals
    refine wh ?_;refine⟨[],[],_,_,_,_,vR _,t3,cw ?_⟩;refine⟨L.length - (j+1),?_,om⟩;refine⟨[],[],?_⟩
    iterate 3 constructor
    refine⟨⟨?_,?_,?_⟩,⟨j+1,h,rfl,rfl,rfl,rfl⟩⟩
    all_goals(repeat' first|exact LF|constructor)
    refine Lz.int ?_;rw[wo];exact UL w hw.1 _ (by decide)
  ·have h':j=L.length:=by have:¬j<L.length:=by simpa using h
                          omega
   subst h';refine wh ?_;rw[List.take_length];exact⟨[],[],_,_,_,t3,rfl,rfl,rfl⟩
end Go.M.Small
namespace Go.M
open Go Go.Proofs
set_option maxRecDepth 1000000
instance (x:Int):Decidable (m5 x):=inferInstanceAs (Decidable (1≤x∧x≤5))
def mY:SQ:=fun pre cs=>match pre with
 |[.int .u64 s]=>bO (decide (s=0)&&cs.all (fun x=>decide (m5 x))&&Nat.blt cs.length 1000000) (some (.int .u64 (bI 0 cs)))
 |_=>none
theorem DW {ks:List Int} (h5:∀w∈ks,m5 w) (hl:ks.length<1000000):mY [.int .u64 0] ks=some (.int .u64 (bI 0 ks)):=by
 have h1:ks.all (fun x=>decide (m5 x))=true:=List.all_eq_true.2 fun w hw=>decide_eq_true (h5 w hw);simp only[mY,h1,ba.2 hl,bO];rfl
theorem SU:Kt Tryz.prog 100 mY:=by
 intro pre cs v _ hv;unfold mY at hv;split at hv
 ·rename_i s;simp only[aj,Bool.and_eq_true,decide_eq_true_iff,List.all_eq_true,ba,Option.some.injEq]at hv;obtain⟨⟨⟨rfl,h5⟩,hl⟩,rfl⟩:=hv;refine⟨rfl,fun m hp=>⟨fun m=>.int .u64 (bI 0 m),fun m=>(∀x∈m,m5 x)∧m.length<1000000,?_,?_,?_⟩⟩
  ·exact Ca (E:=Small.E0) (yx _ _) Kw Gk (fun _=>rfl) (by simp[aB]) (fun _ _=>rfl) fun m hm=>(Small.DV 0 m (by decide) hm.1 hm.2).mono fun r o c h=>h.1
  ·exact⟨fun x hx=>h5 x (hp.mem_iff.1 hx),by rw[hp.length_eq];exact hl⟩
  ·exact congrArg (fun n:Nat=>Value.int .u64 n) (IZ hp 0)
 ·cases hv
end Go.M
