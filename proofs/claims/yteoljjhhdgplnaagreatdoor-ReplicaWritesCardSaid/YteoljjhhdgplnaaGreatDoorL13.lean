/-
  Part 13 of the library that the proof leans on.
-/
import Derived.Test.YteoljjhhdgplnaaGreatDoorL12
namespace Go.M
open Go Go.Proofs
structure c7 where
 seq:Int
 al:Int
 num:Int
 kind:Int
 key:Int
 dx:Int
 data:List Int
def Uw (u:c7):Bool:= !decide (u.seq=0)&&(decide (1≤u.al∧u.al≤6)&&(decide (1≤u.num)&&((decide (u.kind=2∧u.dx=0∨u.kind=3))&&decide (u.data.length≤2048))))
def ye (k:Int):Bool:=decide (k=2)||decide (k=3)
def px (u:c7):Int:=if ye u.kind then(if 2048<u.data.length then 6 else if Uw u then 0 else 4)else 1
def w6 (u:c7) (dx:Int) (room:Bool):Int×Int×Bool:=
 if ye u.kind then(if u.kind=3∧u.dx≠dx then(11,dx,false)else if(dx=0∧room=false)∨dx=18446744073709551615 then(9,dx,false)else(0,dx+1,true))else(1,dx,false)
structure Vs where
 dx:Int
 seq:Int
 data:List Int
@[reducible] def fV:Vs:=⟨0,0,[]⟩
def Nq (vs:List Vs) (i:Int):Vs:=if 0≤i then vs.getD i.toNat fV else fV
@[reducible] def gX (vs:List Vs):Vs:=Nq vs ((vs.length:Int) - 1)
def py (vs:List Vs) (v:Vs):Int:=
 if 2048<v.data.length then 6 else if v.dx=0∨v.seq=0 then 1 else if 0<vs.length∧(v.dx - 1≠(gX vs).dx∨v.seq≤(gX vs).seq)then 12 else 0
def ow (vs:List Vs) (v:Vs):List Vs:=if py vs v=0 then vs++[v]else vs
def l4 (p:Nat→Bool) (i j:Nat):Nat:=if h:i<j then(if p ((i+j) / 2)then l4 p i ((i+j) / 2)else l4 p ((i+j) / 2+1) j)else i
termination_by j - i
def l5 (vs:List Vs) (d:Int):Int:=(l4 (fun k=>decide (d<(vs.getD k fV).seq)) 0 vs.length:Int) - 1
@[reducible] def fo (vs:List Vs) (d:Int):Nat:=(l5 vs d).toNat
structure fp where
 (al:Int) (num:Int) (seq:Int) (code:Int) (dx:Int)
@[reducible] def eO:fp:=⟨0,0,0,0,0⟩
structure eS where
 (r1:fp) (r2:fp) (r3:fp) (r4:fp) (r5:fp) (r6:fp)
def eS.row (t:eS) (c:Int):fp:=if c=1 then t.r1 else if c=2 then t.r2 else if c=3 then t.r3 else if c=4 then t.r4 else if c=5 then t.r5 else if c=6 then t.r6 else eO
def eS.put (t:eS) (c:Int) (r:fp):eS:=if c=1 then {t with r1:=r}else if c=2 then {t with r2:=r}else if c=3 then {t with r3:=r}else if c=4 then {t with r4:=r}else if c=5 then {t with r5:=r}else if c=6 then {t with r6:=r}else t
@[reducible] def oe:eS:=⟨eO,eO,eO,eO,eO,eO⟩
def yf (r:fp):Bool:=decide ((1≤r.al∧r.al≤6)∧1≤r.num∧1≤r.seq∧0≤r.code∧r.code≤255)
def ct (t:eS) (c n:Int):Int:=if¬(1≤c∧c≤6)∨n=0 then 2 else if(t.row c).num<n then 0 else if n=(t.row c).num then 1 else 2
def fW (t:eS) (c:Int):fp×Bool:=if¬(1≤c∧c≤6)∨(t.row c).num=0 then(eO,false)else(t.row c,true)
def B5 (t:eS) (r:fp):Int:=if yf r=false then 1 else if ct t r.al r.num≠0 then 12 else 0
def KY (t:eS) (r:fp):eS:=if B5 t r=0 then t.put r.al r else t
structure eZ where
 e:Int
 bs:List (Int×List Vs)
 t:eS
@[reducible] def yg (s:eZ) (k:Int):List Vs:=(eu s.bs k).getD []
@[reducible] def KZ (s:eZ) (k:Int) (v:Vs):eZ:={s with bs:=ov s.bs k (ow (yg s k) v)}
@[reducible] def qD (s:eZ):Bool:=decide (s.bs.length<192)
@[reducible] def K3 (s:eZ) (u:c7):Int×Int×Bool:=w6 u (gX (yg s u.key)).dx (qD s)
@[reducible] def K4 (s:eZ) (u:c7):fp:=⟨u.al,u.num,u.seq,(K3 s u).1,(K3 s u).2.1⟩
@[reducible] def wrote (s:eZ) (u:c7):eZ:=if(K3 s u).2.2=true then KZ {s with e:=u.seq} u.key ⟨(K3 s u).2.1,u.seq,u.data⟩else {s with e:=u.seq}
def nq (s:eZ) (u:c7):(fp×Int)×eZ:=
 if px u≠0 then((eO,px u),s)
 else if u.seq - 1≠s.e then((eO,12),s)
 else if ct s.t u.al u.num≠0 then((eO,0),{s with e:=u.seq})
 else((K4 s u,B5 s.t (K4 s u)),{wrote s u with t:=KY s.t (K4 s u)})
def nr (s:eZ) (d k:Int):eZ:=match eu s.bs k with
 |some vs=>{s with bs:=ov s.bs k (vs.drop (fo vs d))}
 |none=>s
def jG (d:Int) (r:eZ×Nat) (k:Int):eZ×Nat:=(nr r.1 d k,r.2+fo (yg r.1 k) d)
def kW (d:Int) (r:eZ×Nat) (ks:List Int):eZ×Nat:=ks.foldl (jG d) r
end Go.M
