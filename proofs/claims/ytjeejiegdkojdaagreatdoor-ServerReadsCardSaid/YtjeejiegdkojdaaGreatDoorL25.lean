/-
  Part 25 of the library that the proof leans on.
-/
import Derived.Test.YtjeejiegdkojdaaGreatDoorL12
import Derived.OpenShut
import Derived.ChangeArms
namespace Go.M
open Go
def qt (P:Program) (f:TypeId→DataW Unit→List Value→Bool):List Field→List (DataW Unit)→Nat→List Value→Bool
 |[],_,_,vs=>vs.isEmpty
 |x::xs,d::ds,o,vs=>Nat.beq x.offset o&&Nat.ble (P.cellsOf x.type) vs.length&&f x.type d (vs.take (P.cellsOf x.type))&&qt P f xs ds (o+P.cellsOf x.type) (vs.drop (P.cellsOf x.type))
 |_::_,[],_,_=>false
def MK (f:DataW Unit→List Value→Bool) (z:Nat):Nat→List (DataW Unit)→List Value→Bool
 |0,_,vs=>vs.isEmpty
 |n+1,d::ds,vs=>Nat.ble z vs.length&&f d (vs.take z)&&MK f z n ds (vs.drop z)
 |_+1,[],_=>false
def dB (P:Program):Nat→TypeId→DataW Unit→List Value→Bool
 |0,_,_,_=>false
 |n+1,t,d,vs=>match P.underlying t with
  |some .bool=>(match d,vs with| .lit (.bool b),[.bool b']=>decide (b=b')|_,_=>false)
  |some (.int _)=>(match d,vs with| .lit (.int k m),[.int k' m']=>decide (k=k')&&decide (m=m')|_,_=>false)
  |some .string=>(match d,vs with| .lit (.string l),[.string s]=>decide (l=s.data.toList)|_,_=>false)
  |some (.struct fs)=>(match d with| .agg ds=>Nat.beq (P.cellsOf t) vs.length&&qt P (dB P n) fs.toList ds 0 vs|_=>false)
  |some (.array m e)=>(match d with| .agg ds=>Nat.beq (P.cellsOf t) vs.length&&MK (dB P n e) (P.cellsOf e) m ds vs|_=>false)
  |_=>false
section
variable {P:Program}
theorem Gc {f:TypeId→DataW Unit→List Value→Bool} {g:TypeId→DataW Unit→List Value→Prop} (OT:∀t d vs cs,f t d vs=true→g t d cs→cs=vs):∀{xs:List Field} {ds:List (DataW Unit)} {o:Nat} {vs cs:List Value},
 qt P f xs ds o vs=true→cs.length=o+vs.length→(∀(i:Nat) x d,xs[i]? =some x→ds[i]? =some d→g x.type d ((cs.drop x.offset).take (P.cellsOf x.type)))→cs.drop o=vs
 |[],ds,o,vs,cs,h,hl,_=>by
  simp only[qt,List.isEmpty_iff]at h;subst h;rw[List.drop_of_length_le (by simp at hl;omega)]
 |x::xs,[],o,vs,cs,h,hl,_=>by simp[qt]at h
 |x::xs,d::ds,o,vs,cs,h,hl,hg=>by
  simp only[qt,Bool.and_eq_true,beq_iff,aG]at h;obtain⟨⟨⟨h1,h2⟩,h3⟩,h4⟩:=h;have k1:=OT _ _ _ _ h3 (hg 0 x d rfl rfl);have k2:=Gc OT h4 (cs:=cs) (by simp;omega) fun i y d' hy hd=>hg (i+1) y d' (by simpa using hy) (by simpa using hd);rw[←List.take_append_drop (P.cellsOf x.type) vs,←k1,←k2,h1,←List.drop_drop,List.take_append_drop]
theorem Vq {f:DataW Unit→List Value→Bool} {z:Nat} {g:DataW Unit→List Value→Prop} (OT:∀d vs cs,f d vs=true→g d cs→cs=vs):∀{n k:Nat} {ds:List (DataW Unit)} {vs cs:List Value},
 MK f z n ds vs=true→cs.length=k*z+vs.length→(∀i d,i<n→ds[i]? =some d→g d ((cs.drop ((k+i)*z)).take z))→cs.drop (k*z)=vs
 |0,k,ds,vs,cs,h,hl,_=>by
  simp only[MK,List.isEmpty_iff]at h;subst h;rw[List.drop_of_length_le (by simp at hl;omega)]
 |n+1,k,[],vs,cs,h,hl,hg=>by simp[MK]at h
 |n+1,k,d::ds,vs,cs,h,hl,hg=>by
  simp only[MK,Bool.and_eq_true,aG]at h;obtain⟨⟨h1,h2⟩,h3⟩:=h;have k1:=OT _ _ _ h2 (hg 0 d om rfl);have k2:=Vq (n:=n) (k:=k+1) OT h3 (cs:=cs) (by simp[Nat.succ_mul];omega) fun i d' hi hd=>by
   have:=hg (i+1) d' om (by simpa using hd)
   rwa [show k+(i+1)=k+1+i by omega]at this
  rw[Nat.add_zero]at k1;rw[←List.take_append_drop z vs,←k1,←k2,Nat.succ_mul,←List.drop_drop,List.take_append_drop]
theorem IB {enc:TypeId×Value→Unit} {W:World} {base:Nat} {sp:Nat→Bool} {held:Bool}:∀(n:Nat) (t:TypeId) (d:DataW Unit) (vs:List Value),dB P n t d vs=true→
 ∀(fuel:Nat) (cs:List Value) (p:List MemPlace),DataW.trod enc P W base sp held fuel t cs=some (d,p)→cs=vs:=by
 intro n
 induction n with
 |zero=>intro t d vs h;cases h
 |succ n ih=>
  intro t d vs h fuel cs p hr;unfold dB at h;split at h
  ·rename_i hu;obtain⟨b,rfl,e⟩:=DataW.trod_bool hu hr;cases e;split at h
   ·rename_i e;cases e;rw[of_decide_eq_true h]
   ·cases h
  ·rename_i k hu;obtain⟨m,rfl,e,_⟩:=DataW.trod_int hu hr;cases e;split at h
   ·rename_i e;cases e;simp only[Bool.and_eq_true]at h;rw[of_decide_eq_true h.1,of_decide_eq_true h.2]
   ·cases h
  ·rename_i hu;obtain⟨s,rfl,e,_⟩:=DataW.trod_string hu hr;cases e;split at h
   ·rename_i s' e;cases e;have:=of_decide_eq_true h;have e2:s.data=s'.data:=Array.ext' this;obtain⟨a⟩:=s;obtain⟨b⟩:=s';simp only at e2;rw[e2]
   ·cases h
  ·rename_i fs hu;obtain⟨xs,m,rfl,e,hl,hx,he⟩:=DataW.trod_struct hu hr;cases e;simp only[Bool.and_eq_true,beq_iff]at h;obtain⟨h1,h2⟩:=h;have:=Gc (g:=fun u d' l=>∃q,DataW.trod enc P W base sp held m u l=some (d',q)) (fun u d' nB cs' q1 ⟨q,hq⟩=>ih u d' nB q1 m cs' q hq) h2 (cs:=cs) om fun i x d' hi hd=>by
    rw[he i x (by simpa using hi)];simp only[List.getElem?_map,Option.map_eq_some_iff]at hd;obtain⟨⟨d2,q⟩,hd,rfl⟩:=hd;exact⟨q,hd⟩
   simpa using this
  ·rename_i k e hu;obtain⟨xs,m,rfl,e',hl,hx,he⟩:=DataW.trod_array hu hr;cases e';simp only[Bool.and_eq_true,beq_iff]at h;obtain⟨h1,h2⟩:=h;have:=Vq (g:=fun d' l=>∃q,DataW.trod enc P W base sp held m e l=some (d',q)) (fun d' nB cs' q1 ⟨q,hq⟩=>ih e d' nB q1 m cs' q hq) (k:=0) h2 (cs:=cs) om fun i d' hi hd=>by
    rw[Nat.zero_add,he i hi];simp only[List.getElem?_map,Option.map_eq_some_iff]at hd;obtain⟨⟨d2,q⟩,hd,rfl⟩:=hd;exact⟨q,hd⟩
   simpa using this
  ·cases h
theorem tR {W:World}:∀{laid:List (String×DataW Unit)} {ps:List MemPlace},DataW.LaidVars P W laid ps→∀x∈laid,∃g t cs fuel p,P.globalNamed x.1=some g∧(P.globals[g]?).map (·.type)=some t∧W.var? P x.1=some cs∧
      DataW.trod (fun _=>()) P W 0 (fun _=>true) false fuel t cs.toList=some (x.2,p)
 |[],_,_,x,hx=>by cases hx
 |y::r,ps,⟨g,t,cs,fuel,p,q,h1,h2,h3,h4,h5,_⟩,x,hx=>by
  rcases List.mem_cons.1 hx with rfl |hx
  ·exact⟨g,t,cs,fuel,p,h1,h2,h3,h4⟩
  ·exact tR h5 x hx
def abL (P:Program) (laid:List (String×DataW Unit)) (l:mu):Bool:=l.all fun p=>laid.any fun x=>(match P.globalNamed x.1 with|some g=>Nat.beq g p.1|none=>false)&&(match(P.globals[p.1]?).map (·.type)with|some t=>dB P 100 t x.2 p.2|none=>false)
def Vr (l:mu):Bool:=l.all fun p=>p.2.all fun v=> !B9 v
theorem QF {l:mu} (hN:Vr l=true) {g:Nat} {cs:List Value} (hg:look l g=some cs) {i:Nat} {v:Value} (hi:cs[i]? =some v):B9 v=false:=by
 have:=List.all_eq_true.1 (List.all_eq_true.1 hN _ (s7 hg)) v (List.mem_of_getElem? hi);simpa using this
theorem QG {laid:List (String×DataW Unit)} {l:mu} {W:World} (hB:abL P laid l=true) (h:laidMet P laid W) (hN:Vr l=true:=by decide):yF l W:=by
 intro g vs hg;obtain⟨ps,hv,_⟩:=h;have:=List.all_eq_true.1 hB _ (s7 hg);obtain⟨x,hx,hc⟩:=List.any_eq_true.1 this;obtain⟨g',t,cs,fuel,p,h1,h2,h3,h4⟩:=tR hv x hx;rw[h1]at hc;simp only[Bool.and_eq_true,beq_iff]at hc;obtain⟨rfl,hc⟩:=hc;rw[h2]at hc;have e:=IB 100 t x.2 vs hc fuel _ p h4;unfold World.var? at h3;rw[h1]at h3;simp only[Option.bind_some]at h3;split at h3
 ·rename_i c e' fr hh;injection h3 with h3;subst h3;refine⟨_,e',fr,hh,by rw[←e];simp,fun i v hi=>⟨v,by rw[←e]at hi;simpa using hi,.inl ⟨?_,rfl⟩⟩⟩;exact QF hN hg hi
 ·cases h3
end
end Go.M
