/-
  Part 13 of the library that the proof leans on.
-/
import Derived.Test.YteoljjhhdgplnaaGreatDoorL12
namespace Go.M
open Go Go.Proofs
structure dx where
 seq:Int
 ao:Int
 num:Int
 kind:Int
 key:Int
 ey:Int
 data:List Int
def okU (u:dx):Bool:= !decide (u.seq=0)&&(decide (1≤u.ao∧u.ao≤6)&&(decide (1≤u.num)&&((decide (u.kind=2∧u.ey=0∨u.kind=3))&&decide (u.data.length≤2048))))
def Du (k:Int):Bool:=decide (k=2)||decide (k=3)
def uz (u:dx):Int:=if Du u.kind then(if 2048<u.data.length then 6 else if okU u then 0 else 4)else 1
def Cl (u:dx) (ey:Int) (room:Bool):Int×Int×Bool:=
 if Du u.kind then(if u.kind=3∧u.ey≠ey then(11,ey,false)else if(ey=0∧room=false)∨ey=18446744073709551615 then(9,ey,false)else(0,ey+1,true))else(1,ey,false)
structure Vs where
 ey:Int
 seq:Int
 data:List Int
@[reducible] def iL:Vs:=⟨0,0,[]⟩
def Vm (vs:List Vs) (i:Int):Vs:=if 0≤i then vs.getD i.toNat iL else iL
@[reducible] def jH (vs:List Vs):Vs:=Vm vs ((vs.length:Int) - 1)
def qU (vs:List Vs) (v:Vs):Int:=
 if 2048<v.data.length then 6 else if v.ey=0∨v.seq=0 then 1 else if 0<vs.length∧(v.ey - 1≠(jH vs).ey∨v.seq≤(jH vs).seq)then 12 else 0
def p8 (vs:List Vs) (v:Vs):List Vs:=if qU vs v=0 then vs++[v]else vs
def pA (p:Nat→Bool) (i j:Nat):Nat:=if h:i<j then(if p ((i+j) / 2)then pA p i ((i+j) / 2)else pA p ((i+j) / 2+1) j)else i
termination_by j - i
def pB (vs:List Vs) (d:Int):Int:=(pA (fun k=>decide (d<(vs.getD k iL).seq)) 0 vs.length:Int) - 1
@[reducible] def gQ (vs:List Vs) (d:Int):Nat:=(pB vs d).toNat
structure fw where
 (ao:Int) (num:Int) (seq:Int) (code:Int) (ey:Int)
@[reducible] def gd:fw:=⟨0,0,0,0,0⟩
structure gg where
 (r1:fw) (r2:fw) (r3:fw) (r4:fw) (r5:fw) (r6:fw)
def gg.row (t:gg) (c:Int):fw:=if c=1 then t.r1 else if c=2 then t.r2 else if c=3 then t.r3 else if c=4 then t.r4 else if c=5 then t.r5 else if c=6 then t.r6 else gd
def gg.put (t:gg) (c:Int) (r:fw):gg:=if c=1 then {t with r1:=r}else if c=2 then {t with r2:=r}else if c=3 then {t with r3:=r}else if c=4 then {t with r4:=r}else if c=5 then {t with r5:=r}else if c=6 then {t with r6:=r}else t
@[reducible] def iF:gg:=⟨gd,gd,gd,gd,gd,gd⟩
def Dv (r:fw):Bool:=decide ((1≤r.ao∧r.ao≤6)∧1≤r.num∧1≤r.seq∧0≤r.code∧r.code≤255)
def di (t:gg) (c n:Int):Int:=if¬(1≤c∧c≤6)∨n=0 then 2 else if(t.row c).num<n then 0 else if n=(t.row c).num then 1 else 2
def iM (t:gg) (c:Int):fw×Bool:=if¬(1≤c∧c≤6)∨(t.row c).num=0 then(gd,false)else(t.row c,true)
def Cm (t:gg) (r:fw):Int:=if Dv r=false then 1 else if di t r.ao r.num≠0 then 12 else 0
def KX (t:gg) (r:fw):gg:=if Cm t r=0 then t.put r.ao r else t
structure e7 where
 e:Int
 bs:List (Int×List Vs)
 t:gg
@[reducible] def yW (s:e7) (k:Int):List Vs:=(eS s.bs k).getD []
@[reducible] def Iu (s:e7) (k:Int) (v:Vs):e7:={s with bs:=qT s.bs k (p8 (yW s k) v)}
@[reducible] def vN (s:e7):Bool:=decide (s.bs.length<192)
@[reducible] def Sy (s:e7) (u:dx):Int×Int×Bool:=Cl u (jH (yW s u.key)).ey (vN s)
@[reducible] def SE (s:e7) (u:dx):fw:=⟨u.ao,u.num,u.seq,(Sy s u).1,(Sy s u).2.1⟩
@[reducible] def wrote (s:e7) (u:dx):e7:=if(Sy s u).2.2=true then Iu {s with e:=u.seq} u.key ⟨(Sy s u).2.1,u.seq,u.data⟩else {s with e:=u.seq}
def qV (s:e7) (u:dx):(fw×Int)×e7:=
 if uz u≠0 then((gd,uz u),s)
 else if u.seq - 1≠s.e then((gd,12),s)
 else if di s.t u.ao u.num≠0 then((gd,0),{s with e:=u.seq})
 else((SE s u,Cm s.t (SE s u)),{wrote s u with t:=KX s.t (SE s u)})
def qW (s:e7) (d k:Int):e7:=match eS s.bs k with
 |some vs=>{s with bs:=qT s.bs k (vs.drop (gQ vs d))}
 |none=>s
def lX (d:Int) (r:e7×Nat) (k:Int):e7×Nat:=(qW r.1 d k,r.2+gQ (yW r.1 k) d)
def oE (d:Int) (r:e7×Nat) (ks:List Int):e7×Nat:=ks.foldl (lX d) r
end Go.M
