/-
  Part 13 of the library that the proof leans on.
-/
import Derived.Test.YtjeejiegdkojdaaGreatDoorL12
namespace Go.M
open Go Go.Proofs
structure bd where
 seq:Int
 aj:Int
 num:Int
 kind:Int
 key:Int
 bA:Int
 data:List Int
def Sf (u:bd):Bool:= !decide (u.seq=0)&&(decide (1≤u.aj∧u.aj≤6)&&(decide (1≤u.num)&&((decide (u.kind=2∧u.bA=0∨u.kind=3))&&decide (u.data.length≤2048))))
def vH (k:Int):Bool:=decide (k=2)||decide (k=3)
def qz (u:bd):Int:=if vH u.kind then(if 2048<u.data.length then 6 else if Sf u then 0 else 4)else 1
def yH (u:bd) (bA:Int) (room:Bool):Int×Int×Bool:=
 if vH u.kind then(if u.kind=3∧u.bA≠bA then(11,bA,false)else if(bA=0∧room=false)∨bA=18446744073709551615 then(9,bA,false)else(0,bA+1,true))else(1,bA,false)
structure Vs where
 bA:Int
 seq:Int
 data:List Int
@[reducible] def cu:Vs:=⟨0,0,[]⟩
def v5 (vs:List Vs) (i:Int):Vs:=if 0≤i then vs.getD i.toNat cu else cu
@[reducible] def ba (vs:List Vs):Vs:=v5 vs ((vs.length:Int) - 1)
def mZ (vs:List Vs) (v:Vs):Int:=
 if 2048<v.data.length then 6 else if v.bA=0∨v.seq=0 then 1 else if 0<vs.length∧(v.bA - 1≠(ba vs).bA∨v.seq≤(ba vs).seq)then 12 else 0
def jP (vs:List Vs) (v:Vs):List Vs:=if mZ vs v=0 then vs++[v]else vs
def kB (p:Nat→Bool) (i j:Nat):Nat:=if h:i<j then(if p ((i+j) / 2)then kB p i ((i+j) / 2)else kB p ((i+j) / 2+1) j)else i
termination_by j - i
def eU (vs:List Vs) (d:Int):Int:=(kB (fun k=>decide (d<(vs.getD k cu).seq)) 0 vs.length:Int) - 1
@[reducible] def eJ (vs:List Vs) (d:Int):Nat:=(eU vs d).toNat
structure iy where
 (aj:Int) (num:Int) (seq:Int) (code:Int) (bA:Int)
@[reducible] def iR:iy:=⟨0,0,0,0,0⟩
structure ff where
 (r1:iy) (r2:iy) (r3:iy) (r4:iy) (r5:iy) (r6:iy)
def ff.row (t:ff) (c:Int):iy:=if c=1 then t.r1 else if c=2 then t.r2 else if c=3 then t.r3 else if c=4 then t.r4 else if c=5 then t.r5 else if c=6 then t.r6 else iR
def ff.put (t:ff) (c:Int) (r:iy):ff:=if c=1 then {t with r1:=r}else if c=2 then {t with r2:=r}else if c=3 then {t with r3:=r}else if c=4 then {t with r4:=r}else if c=5 then {t with r5:=r}else if c=6 then {t with r6:=r}else t
@[reducible] def hH:ff:=⟨iR,iR,iR,iR,iR,iR⟩
def AW (r:iy):Bool:=decide ((1≤r.aj∧r.aj≤6)∧1≤r.num∧1≤r.seq∧0≤r.code∧r.code≤255)
def bV (t:ff) (c n:Int):Int:=if¬(1≤c∧c≤6)∨n=0 then 2 else if(t.row c).num<n then 0 else if n=(t.row c).num then 1 else 2
def iz (t:ff) (c:Int):iy×Bool:=if¬(1≤c∧c≤6)∨(t.row c).num=0 then(iR,false)else(t.row c,true)
def EX (t:ff) (r:iy):Int:=if AW r=false then 1 else if bV t r.aj r.num≠0 then 12 else 0
def HL (t:ff) (r:iy):ff:=if EX t r=0 then t.put r.aj r else t
structure dp where
 e:Int
 bs:List (Int×List Vs)
 t:ff
@[reducible] def cE (s:dp) (k:Int):List Vs:=(dm s.bs k).getD []
@[reducible] def zS (s:dp) (k:Int) (v:Vs):dp:={s with bs:=iQ s.bs k (jP (cE s k) v)}
@[reducible] def m4 (s:dp):Bool:=decide (s.bs.length<192)
@[reducible] def k9 (s:dp) (u:bd):Int×Int×Bool:=yH u (ba (cE s u.key)).bA (m4 s)
@[reducible] def CV (s:dp) (u:bd):iy:=⟨u.aj,u.num,u.seq,(k9 s u).1,(k9 s u).2.1⟩
@[reducible] def wrote (s:dp) (u:bd):dp:=if(k9 s u).2.2=true then zS {s with e:=u.seq} u.key ⟨(k9 s u).2.1,u.seq,u.data⟩else {s with e:=u.seq}
def dS (s:dp) (u:bd):(iy×Int)×dp:=
 if qz u≠0 then((iR,qz u),s)
 else if u.seq - 1≠s.e then((iR,12),s)
 else if bV s.t u.aj u.num≠0 then((iR,0),{s with e:=u.seq})
 else((CV s u,EX s.t (CV s u)),{wrote s u with t:=HL s.t (CV s u)})
def gT (s:dp) (d k:Int):dp:=match dm s.bs k with
 |some vs=>{s with bs:=iQ s.bs k (vs.drop (eJ vs d))}
 |none=>s
def gU (d:Int) (r:dp×Nat) (k:Int):dp×Nat:=(gT r.1 d k,r.2+eJ (cE r.1 k) d)
def kh (d:Int) (r:dp×Nat) (ks:List Int):dp×Nat:=ks.foldl (gU d) r
end Go.M
