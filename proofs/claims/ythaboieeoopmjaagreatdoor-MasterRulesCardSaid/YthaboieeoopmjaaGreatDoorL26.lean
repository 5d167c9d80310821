/-
  Part 26 of the library that the proof leans on.
-/
import Derived.Test.YthaboieeoopmjaaGreatDoorL25
namespace Go.M
open Go Go.Proofs
set_option maxHeartbeats 1000000
set_option maxRecDepth 100000
def ov (down:List Int) (s:MS) (i:Nat):MS:=
 match(ou s)[i]? with
 |none=>s
 |some c=>if c.join≠0∨c.fresh=true∨s.eC≤(c.nodes.length:Int)then s else
  (let n:=g7 (eU down (ou s) (BQ s.p.1)) s.nodes.toNat 0
  if n≠0 then Ji s ⟨2,c.chain,c.aq,n⟩else s)
def GM (down:List Int) (s:MS):MS:=
 let s1:=Je (bo s (iM s.p.1.b (aD s.K))) (BQ s.p.1)
 let s2:=match(ou s)[(s.aK % ((ou s).length:Nat)).toNat]? with
  |none=>s1
  |some c=>re s1 c
 (List.range (ou s).length).foldl (ov down) s2
def rj (down:List Int) (s:MS):MS:=
 if s.p.1.st=2 then GM down {s with aK:=s.aK+1}
 else if s.p.1.st=1 then
  (let s1:={s with aK:=s.aK+1,waited:=s.waited+1}
  if(s.waited+1) % 4=0 then bo s1 (fZ s.p.1.b s.p.1.ak)else s1)
 else
  (let s1:={s with aK:=s.aK+1,quiet:=s.quiet+1}
  if 3+3*s.me<s.quiet+1 then zD s1 else s1)
def MR (s:MS):MS:={s with out:=[]}
def zE (s:MS) (m:bS):MS:=if cL m=0∧m.to=bF s∧(m.kind≤8→100<m.ak∧m.ak≤100+s.ah)then GK s m else s
def c5 (w:List MS×List bS) (m:bS):List MS×List bS:=
 if 100<m.to∧m.to≤105 then
  match w.1[(m.to - 101).toNat]? with
  |none=>w
  |some s=>(let s1:=zE s m;(w.1.set (m.to - 101).toNat (MR s1),w.2++s1.out))
 else w
def jE (n:Int) (round:Nat) (w:List MS×List bS) (i:Nat):List MS×List bS:=
 match w.1[i]? with
 |none=>w
 |some s=>
  let s1:=rj [n] s
  let w1:=(w.1.set i (MR s1),w.2++s1.out)
  if round=30 then c5 w1 ⟨9,n % 3+1,101+(i:Nat),0,0,⟨1,0,1,n⟩,aS,[]⟩else w1
def lH (n:Int) (w:List MS×List bS) (round:Nat):List MS×List bS:=
 (List.range w.1.length).foldl (jE n round) (w.2.foldl c5 (w.1,[]))
def kC (me n:Int) (l:List CF):MS:=⟨me,n,3,3,0,0,0,(0,[]),[],[],l,(mL me n,false),[]⟩
def j6 (k:Nat) (n:Int) (rounds:Nat):List MS×List bS:=
 (List.range rounds).foldl (lH n) ((List.range k).map fun(i:Nat)=>kC ((i:Int)+1) (k:Int) [⟨0,1,[1,2,3],false,0⟩],[])
def Vo (l:List MS):Bool:=
 decide ((l.filter fun s=>s.p.1.st==2).length=1)&&l.all fun s=>match(ou s)[0]? with
  |none=>false
  |some c=>c.aq==2&&c.nodes.length==2
theorem MU:∀k∈[1,2,3,4,5],∀n∈[(1:Int),2,3],Vo (j6 k n 40).1=true:=by decide+kernel
end Go.M
