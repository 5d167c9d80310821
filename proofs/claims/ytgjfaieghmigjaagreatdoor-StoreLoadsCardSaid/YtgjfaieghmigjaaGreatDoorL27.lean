/-
  Part 27 of the library that the proof leans on.
-/
import Derived.Test.YtgjfaieghmigjaaGreatDoorL12
namespace Go.M
open Go
@[reducible] def encU1 (n:Int):List TV:=[.s (.int .u8 n)]
def bigL:Nat→Nat→List Int
 |0,_=>[]
 |w+1,n=>bigL w (n / 256)++[((n % 256:Nat):Int)]
theorem bigL_len:∀w n,(bigL w n).length=w
 |0,_=>rfl
 |w+1,n=>by unfold bigL;rw[List.length_append,bigL_len w];rfl
theorem bigL_cons:∀w n,bigL (w+1) n=((n / 256 ^ w % 256:Nat):Int)::bigL w n
 |0,n=>by simp[bigL]
 |w+1,n=>by
  rw[bigL,bigL_cons w (n / 256),Nat.div_div_eq_div_mul,Nat.pow_succ',List.cons_append]
  rfl
theorem bigL_byte:∀w n,∀x∈bigL w n,0≤x∧x<256
 |0,_,x,h=>by simp[bigL]at h
 |w+1,n,x,h=>by
  rw[bigL,List.mem_append]at h
  rcases h with h|h
  ·exact bigL_byte w _ x h
  ·simp at h;subst h;omega
def numS (a b:Int):Int:=(a*256+b) % 18446744073709551616
def numL (l:List Int):Int:=l.foldl numS 0
theorem numL_snoc (l:List Int) (b:Int):numL (l++[b])=numS (numL l) b:=by
 unfold numL;rw[List.foldl_append];rfl
theorem numL_range (l:List Int):0≤numL l∧numL l<18446744073709551616:=by
 rcases List.eq_nil_or_concat l with rfl |⟨m,b,rfl⟩
 ·exact⟨by decide,by decide⟩
 ·rw[List.concat_eq_append,numL_snoc];unfold numS;omega
theorem numL_ltK:∀(k:Nat) (l:List Int),l.length=k→k≤8→(∀x∈l,0≤x∧x<256)→numL l<(256:Int) ^ k
 |0,l,hl,_,_=>by obtain rfl:=List.length_eq_zero_iff.1 hl;decide
 |k+1,l,hl,hk,hb=>by
  rcases List.eq_nil_or_concat l with rfl |⟨m,b,rfl⟩
  ·simp at hl
  ·rw[List.concat_eq_append]at hl hb ⊢
   rw[List.length_append]at hl
   have h1:=numL_ltK k m (by simpa using hl) (by omega) fun x hx=>hb x (List.mem_append_left _ hx)
   have h2:=hb b (by simp)
   have h0:=numL_range m
   rw[numL_snoc]
   unfold numS
   rw[Int.pow_succ]
   have:(numL m*256+b) % 18446744073709551616≤numL m*256+b:=by omega
   omega
theorem numL_lt (l:List Int) (h:l.length≤8) (hb:∀x∈l,0≤x∧x<256):numL l<(256:Int) ^ l.length:=numL_ltK _ l rfl h hb
theorem numL_big:∀(w n:Nat),w≤8→n<256 ^ w→numL (bigL w n)=n
 |0,n,_,h=>by simp at h;subst h;rfl
 |w+1,n,hw,h=>by
  rw[bigL,numL_snoc,numL_big w (n / 256) (by omega) (by rw[Nat.pow_succ]at h;omega)]
  unfold numS
  have:n<18446744073709551616:=Nat.lt_of_lt_of_le h (Nat.le_trans (Nat.pow_le_pow_right (by decide) hw) (by decide))
  omega
theorem shr_eq (n i:Nat) (h:i<9):vint .shr .u64 .i64 (n:Int) (IntKind.i64.wrap (8*(i:Int)))=some (.int .u64 ((n / 256 ^ i:Nat):Int)):=by
 have hw:IntKind.i64.wrap (8*(i:Int))=((8*i:Nat):Int):=by rw[IntWalk.i64_in _ (by omega)];simp
 rw[hw]
 show pureV (Op.shift .shr .u64 (n:Int) .i64 ((8*i:Nat):Int))=_
 unfold Op.shift
 rw[if_neg (by omega),Int.toNat_natCast]
 have hm:min (8*i) IntKind.u64.bits=8*i∨i=8:=by
  show min (8*i) 64=_∨_
  omega
 have e2:(2:Nat) ^ (8*i)=256 ^ i:=by rw[Nat.pow_mul]
 have hm2:min (8*i) IntKind.u64.bits=8*i:=by
  show min (8*i) 64=_
  omega
 rw[hm2]
 show some (Value.int .u64 ((n:Int).fdiv (2 ^ (8*i))))=_
 congr 2
 rw[show((2:Int) ^ (8*i))=((256 ^ i:Nat):Int)from by rw[←e2];simp]
 exact(Int.ofNat_fdiv n (256 ^ i)).symm
theorem or_eq (a b:Int) (ha:0≤a) (hb:0≤b∧b<256):IntKind.u64.wrap ((BitVec.ofInt 64 (IntKind.u64.wrap (a*256))|||BitVec.ofInt 64 b).toNat:Int)=numS a b:=by
 obtain⟨A,rfl⟩:∃A:Nat,a=A:=⟨a.toNat,by omega⟩
 obtain⟨B,rfl⟩:∃B:Nat,b=B:=⟨b.toNat,by omega⟩
 have hB:B<2 ^ 8:=by omega
 have e1:IntKind.u64.wrap ((A:Int)*256)=(((A % 2 ^ 56)<<<8:Nat):Int):=by
  rw[IntKind.wrap_u64,Nat.shiftLeft_eq];omega
 rw[e1]
 have e2:(BitVec.ofInt 64 (((A % 2 ^ 56)<<<8:Nat):Int)|||BitVec.ofInt 64 (B:Int)).toNat=(A % 2 ^ 56)<<<8+B:=by
  rw[BitVec.toNat_or,BitVec.toNat_ofInt,BitVec.toNat_ofInt]
  have h1:(A % 2 ^ 56)<<<8<2 ^ 64:=by rw[Nat.shiftLeft_eq];omega
  rw[Nat.shiftLeft_add_eq_or_of_lt hB]
  congr 1
  ·omega
  ·omega
 rw[e2,IntKind.wrap_u64,Nat.shiftLeft_eq]
 unfold numS
 omega
theorem num_eq (a b:Int):IntKind.u64.wrap (IntKind.u64.wrap (a*256)+b)=numS a b:=by
 rw[IntKind.wrap_u64,IntKind.wrap_u64];unfold numS;omega
structure InS where
 b:List Int
 e:Int
def InS.next (s:InS) (n:Nat):InS×Option (List Int):=
 if s.e≠0 then(s,none)else if s.b.length<n then(⟨[],3⟩,none)else(⟨s.b.drop n,0⟩,some (s.b.take n))
def InS.upto (s:InS) (w:Nat) (m:Int):InS×Int:=
 match s.next w with
 |(s',none)=>(s',0)
 |(s',some b)=>if numL b>m then(⟨[],4⟩,0)else(s',numL b)
def InS.get (s:InS) (w:Nat):InS×Int:=s.upto w 18446744073709551615
def InS.raw (s:InS) (n:Nat):InS×List Int:=((s.next n).1,((s.next n).2).getD [])
theorem InS.next_bytes {s:InS} {n:Nat} (h:∀x∈s.b,0≤x∧x<256):(∀x∈(s.next n).1.b,0≤x∧x<256)∧∀l,(s.next n).2=some l→∀x∈l,0≤x∧x<256:=by
 unfold InS.next
 split
 ·exact⟨h,fun l hl=>by cases hl⟩
 ·split
  ·exact⟨by simp,fun l hl=>by cases hl⟩
  ·exact⟨fun x hx=>h x (List.mem_of_mem_drop hx),fun l hl=>by cases hl;exact fun x hx=>h x (List.mem_of_mem_take hx)⟩
theorem InS.upto_bytes {s:InS} {n:Nat} {m:Int} (h:∀x∈s.b,0≤x∧x<256):∀x∈(s.upto n m).1.b,0≤x∧x<256:=by
 have hn:=(InS.next_bytes (n:=n) h).1
 unfold InS.upto
 split
 ·rename_i s' e;rw[e]at hn;exact hn
 ·rename_i s' b e
  rw[e]at hn
  split
  ·simp
  ·exact hn
theorem InS.upto_range {s:InS} {n:Nat} {m:Int}:0≤(s.upto n m).2∧(s.upto n m).2<18446744073709551616:=by
 unfold InS.upto
 split
 ·exact⟨Int.le_refl 0,by show(0:Int)<_;decide⟩
 ·split
  ·exact⟨Int.le_refl 0,by show(0:Int)<_;decide⟩
  ·exact numL_range _
theorem InS.upto_le {s:InS} {n:Nat} {m:Int} (hm:0≤m):(s.upto n m).2≤m:=by
 unfold InS.upto
 split
 ·exact hm
 ·split
  ·exact hm
  ·rename_i h;exact Int.not_lt.1 h
theorem InS.next_len {s:InS} {n:Nat} {l:List Int} (h:(s.next n).2=some l):l.length=n:=by
 unfold InS.next at h
 split at h
 ·cases h
 ·split at h
  ·cases h
  ·cases h;rw[List.length_take];omega
end Go.M
