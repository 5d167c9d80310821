/-
  Part 13 of the library that the proof leans on.
-/
import Derived.Test.YteoljjhhdgplnaaGreatDoorL12
namespace Go.M
open Go Go.Proofs
structure bo where
 seq:Int
 ak:Int
 num:Int
 kind:Int
 key:Int
 cB:Int
 data:List Int
def Qb (u:bo):Bool:= !decide (u.seq=0)&&(decide (1≤u.ak∧u.ak≤6)&&(decide (1≤u.num)&&((decide (u.kind=2∧u.cB=0∨u.kind=3))&&decide (u.data.length≤2048))))
def uV (k:Int):Bool:=decide (k=2)||decide (k=3)
def o9 (u:bo):Int:=if uV u.kind then(if 2048<u.data.length then 6 else if Qb u then 0 else 4)else 1
def xJ (u:bo) (cB:Int) (room:Bool):Int×Int×Bool:=
 if uV u.kind then(if u.kind=3∧u.cB≠cB then(11,cB,false)else if(cB=0∧room=false)∨cB=18446744073709551615 then(9,cB,false)else(0,cB+1,true))else(1,cB,false)
structure Vs where
 cB:Int
 seq:Int
 data:List Int
@[reducible] def fS:Vs:=⟨0,0,[]⟩
def MP (vs:List Vs) (i:Int):Vs:=if 0≤i then vs.getD i.toNat fS else fS
@[reducible] def du (vs:List Vs):Vs:=MP vs ((vs.length:Int) - 1)
def oh (vs:List Vs) (v:Vs):Int:=
 if 2048<v.data.length then 6 else if v.cB=0∨v.seq=0 then 1 else if 0<vs.length∧(v.cB - 1≠(du vs).cB∨v.seq≤(du vs).seq)then 12 else 0
def kK (vs:List Vs) (v:Vs):List Vs:=if oh vs v=0 then vs++[v]else vs
def nG (p:Nat→Bool) (i j:Nat):Nat:=if h:i<j then(if p ((i+j) / 2)then nG p i ((i+j) / 2)else nG p ((i+j) / 2+1) j)else i
termination_by j - i
def lX (vs:List Vs) (d:Int):Int:=(nG (fun k=>decide (d<(vs.getD k fS).seq)) 0 vs.length:Int) - 1
@[reducible] def eR (vs:List Vs) (d:Int):Nat:=(lX vs d).toNat
structure fB where
 (ak:Int) (num:Int) (seq:Int) (code:Int) (cB:Int)
@[reducible] def e6:fB:=⟨0,0,0,0,0⟩
structure dN where
 (r1:fB) (r2:fB) (r3:fB) (r4:fB) (r5:fB) (r6:fB)
def dN.row (t:dN) (c:Int):fB:=if c=1 then t.r1 else if c=2 then t.r2 else if c=3 then t.r3 else if c=4 then t.r4 else if c=5 then t.r5 else if c=6 then t.r6 else e6
def dN.put (t:dN) (c:Int) (r:fB):dN:=if c=1 then {t with r1:=r}else if c=2 then {t with r2:=r}else if c=3 then {t with r3:=r}else if c=4 then {t with r4:=r}else if c=5 then {t with r5:=r}else if c=6 then {t with r6:=r}else t
@[reducible] def iB:dN:=⟨e6,e6,e6,e6,e6,e6⟩
def z8 (r:fB):Bool:=decide ((1≤r.ak∧r.ak≤6)∧1≤r.num∧1≤r.seq∧0≤r.code∧r.code≤255)
def bQ (t:dN) (c n:Int):Int:=if¬(1≤c∧c≤6)∨n=0 then 2 else if(t.row c).num<n then 0 else if n=(t.row c).num then 1 else 2
def gK (t:dN) (c:Int):fB×Bool:=if¬(1≤c∧c≤6)∨(t.row c).num=0 then(e6,false)else(t.row c,true)
def DM (t:dN) (r:fB):Int:=if z8 r=false then 1 else if bQ t r.ak r.num≠0 then 12 else 0
def Gc (t:dN) (r:fB):dN:=if DM t r=0 then t.put r.ak r else t
structure dG where
 e:Int
 bs:List (Int×List Vs)
 t:dN
@[reducible] def kV (s:dG) (k:Int):List Vs:=(dP s.bs k).getD []
@[reducible] def BQ (s:dG) (k:Int) (v:Vs):dG:={s with bs:=iA s.bs k (kK (kV s k) v)}
@[reducible] def mE (s:dG):Bool:=decide (s.bs.length<192)
@[reducible] def kW (s:dG) (u:bo):Int×Int×Bool:=xJ u (du (kV s u.key)).cB (mE s)
@[reducible] def BR (s:dG) (u:bo):fB:=⟨u.ak,u.num,u.seq,(kW s u).1,(kW s u).2.1⟩
@[reducible] def wrote (s:dG) (u:bo):dG:=if(kW s u).2.2=true then BQ {s with e:=u.seq} u.key ⟨(kW s u).2.1,u.seq,u.data⟩else {s with e:=u.seq}
def gu (s:dG) (u:bo):(fB×Int)×dG:=
 if o9 u≠0 then((e6,o9 u),s)
 else if u.seq - 1≠s.e then((e6,12),s)
 else if bQ s.t u.ak u.num≠0 then((e6,0),{s with e:=u.seq})
 else((BR s u,DM s.t (BR s u)),{wrote s u with t:=Gc s.t (BR s u)})
def iC (s:dG) (d k:Int):dG:=match dP s.bs k with
 |some vs=>{s with bs:=iA s.bs k (vs.drop (eR vs d))}
 |none=>s
def iD (d:Int) (r:dG×Nat) (k:Int):dG×Nat:=(iC r.1 d k,r.2+eR (kV r.1 k) d)
def kL (d:Int) (r:dG×Nat) (ks:List Int):dG×Nat:=ks.foldl (iD d) r
end Go.M
