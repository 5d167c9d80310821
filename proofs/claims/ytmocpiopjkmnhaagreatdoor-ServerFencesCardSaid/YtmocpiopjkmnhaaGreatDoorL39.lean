/-
  Part 39 of the library that the proof leans on.
-/
import Derived.Test.YtmocpiopjkmnhaaGreatDoorL12
namespace Go.M
open Go
@[reducible] def encU1 (n:Int):List TV:=[.s (.int .u8 n)]
def bigL:Nat→Nat→List Int
 |0,_=>[]
 |w+1,n=>bigL w (n / 256)++[((n % 256:Nat):Int)]
theorem bigL_len:∀w n,(bigL w n).length=w
 |0,_=>rfl
 |w+1,n=>by unfold bigL;rw[List.length_append,bigL_len w];rfl
theorem bigL_cons:∀w n,bigL (w+1) n=((n / 256 ^ w % 256:Nat):Int)::bigL w n
 |0,n=>by simp[bigL]
 |w+1,n=>by
  rw[bigL,bigL_cons w (n / 256),Nat.div_div_eq_div_mul,Nat.pow_succ',List.cons_append]
  rfl
def numS (a b:Int):Int:=(a*256+b) % 18446744073709551616
def numL (l:List Int):Int:=l.foldl numS 0
theorem shr_eq (n i:Nat) (h:i<9):vint .shr .u64 .i64 (n:Int) (IntKind.i64.wrap (8*(i:Int)))=some (.int .u64 ((n / 256 ^ i:Nat):Int)):=by
 have hw:IntKind.i64.wrap (8*(i:Int))=((8*i:Nat):Int):=by rw[IntWalk.i64_in _ (by omega)];simp
 rw[hw]
 show pureV (Op.shift .shr .u64 (n:Int) .i64 ((8*i:Nat):Int))=_
 unfold Op.shift
 rw[if_neg (by omega),Int.toNat_natCast]
 have hm:min (8*i) IntKind.u64.bits=8*i∨i=8:=by
  show min (8*i) 64=_∨_
  omega
 have e2:(2:Nat) ^ (8*i)=256 ^ i:=by rw[Nat.pow_mul]
 have hm2:min (8*i) IntKind.u64.bits=8*i:=by
  show min (8*i) 64=_
  omega
 rw[hm2]
 show some (Value.int .u64 ((n:Int).fdiv (2 ^ (8*i))))=_
 congr 2
 rw[show((2:Int) ^ (8*i))=((256 ^ i:Nat):Int)from by rw[←e2];simp]
 exact(Int.ofNat_fdiv n (256 ^ i)).symm
structure InS where
 b:List Int
 e:Int
def InS.next (s:InS) (n:Nat):InS×Option (List Int):=
 if s.e≠0 then(s,none)else if s.b.length<n then(⟨[],3⟩,none)else(⟨s.b.drop n,0⟩,some (s.b.take n))
def InS.upto (s:InS) (w:Nat) (m:Int):InS×Int:=
 match s.next w with
 |(s',none)=>(s',0)
 |(s',some b)=>if numL b>m then(⟨[],4⟩,0)else(s',numL b)
def InS.get (s:InS) (w:Nat):InS×Int:=s.upto w 18446744073709551615
def InS.raw (s:InS) (n:Nat):InS×List Int:=((s.next n).1,((s.next n).2).getD [])
end Go.M
