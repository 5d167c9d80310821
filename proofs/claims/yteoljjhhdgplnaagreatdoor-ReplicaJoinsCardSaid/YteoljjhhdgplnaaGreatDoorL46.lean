/-
  Part 46 of the library that the proof leans on.
-/
import Derived.Test.YteoljjhhdgplnaaGreatDoorL32
import Derived.Test.YteoljjhhdgplnaaGreatDoorL33
import Derived.Test.YteoljjhhdgplnaaGreatDoorL34
import Derived.Test.YteoljjhhdgplnaaGreatDoorL35
import Derived.Test.YteoljjhhdgplnaaGreatDoorL36
import Derived.Test.YteoljjhhdgplnaaGreatDoorL37
import Derived.Test.YteoljjhhdgplnaaGreatDoorL38
import Derived.Test.YteoljjhhdgplnaaGreatDoorL39
import Derived.Test.YteoljjhhdgplnaaGreatDoorL40
import Derived.Test.YteoljjhhdgplnaaGreatDoorL41
import Derived.Test.YteoljjhhdgplnaaGreatDoorL42
import Derived.Test.YteoljjhhdgplnaaGreatDoorL43
import Derived.Test.YteoljjhhdgplnaaGreatDoorL44
import Derived.Test.YteoljjhhdgplnaaGreatDoorL45
namespace Go.M
open Go
theorem cj1 {i:Nat} (h:i<90):CD 1 i=true:=by
 rcases Nat.lt_or_ge i 6 with q|q
 ·exact aK agk om om
 rcases Nat.lt_or_ge i 12 with q|q
 ·exact aK agl om om
 rcases Nat.lt_or_ge i 18 with q|q
 ·exact aK agm om om
 rcases Nat.lt_or_ge i 24 with q|q
 ·exact aK agn om om
 rcases Nat.lt_or_ge i 30 with q|q
 ·exact aK ago om om
 rcases Nat.lt_or_ge i 36 with q|q
 ·exact aK agp om om
 rcases Nat.lt_or_ge i 42 with q|q
 ·exact aK agq om om
 rcases Nat.lt_or_ge i 48 with q|q
 ·exact aK agr om om
 rcases Nat.lt_or_ge i 54 with q|q
 ·exact aK ags om om
 rcases Nat.lt_or_ge i 60 with q|q
 ·exact aK agt om om
 rcases Nat.lt_or_ge i 66 with q|q
 ·exact aK abW om om
 rcases Nat.lt_or_ge i 72 with q|q
 ·exact aK abX om om
 rcases Nat.lt_or_ge i 78 with q|q
 ·exact aK abY om om
 rcases Nat.lt_or_ge i 84 with q|q
 ·exact aK abZ om om
 rcases Nat.lt_or_ge i 90 with q|q
 ·exact aK ab0 om om
 omega
theorem cj2 {i:Nat} (h:i<90):CD 2 i=true:=by
 rcases Nat.lt_or_ge i 6 with q|q
 ·exact aK agu om om
 rcases Nat.lt_or_ge i 12 with q|q
 ·exact aK agv om om
 rcases Nat.lt_or_ge i 18 with q|q
 ·exact aK agw om om
 rcases Nat.lt_or_ge i 24 with q|q
 ·exact aK agx om om
 rcases Nat.lt_or_ge i 30 with q|q
 ·exact aK agy om om
 rcases Nat.lt_or_ge i 36 with q|q
 ·exact aK agz om om
 rcases Nat.lt_or_ge i 42 with q|q
 ·exact aK agA om om
 rcases Nat.lt_or_ge i 48 with q|q
 ·exact aK agB om om
 rcases Nat.lt_or_ge i 54 with q|q
 ·exact aK agC om om
 rcases Nat.lt_or_ge i 60 with q|q
 ·exact aK agD om om
 rcases Nat.lt_or_ge i 66 with q|q
 ·exact aK ab1 om om
 rcases Nat.lt_or_ge i 72 with q|q
 ·exact aK ab2 om om
 rcases Nat.lt_or_ge i 78 with q|q
 ·exact aK ab3 om om
 rcases Nat.lt_or_ge i 84 with q|q
 ·exact aK ab4 om om
 rcases Nat.lt_or_ge i 90 with q|q
 ·exact aK ab5 om om
 omega
theorem cj3 {i:Nat} (h:i<90):CD 3 i=true:=by
 rcases Nat.lt_or_ge i 6 with q|q
 ·exact aK agE om om
 rcases Nat.lt_or_ge i 12 with q|q
 ·exact aK agF om om
 rcases Nat.lt_or_ge i 18 with q|q
 ·exact aK agG om om
 rcases Nat.lt_or_ge i 24 with q|q
 ·exact aK agH om om
 rcases Nat.lt_or_ge i 30 with q|q
 ·exact aK agI om om
 rcases Nat.lt_or_ge i 36 with q|q
 ·exact aK agJ om om
 rcases Nat.lt_or_ge i 42 with q|q
 ·exact aK agK om om
 rcases Nat.lt_or_ge i 48 with q|q
 ·exact aK agL om om
 rcases Nat.lt_or_ge i 54 with q|q
 ·exact aK agM om om
 rcases Nat.lt_or_ge i 60 with q|q
 ·exact aK agN om om
 rcases Nat.lt_or_ge i 66 with q|q
 ·exact aK ab6 om om
 rcases Nat.lt_or_ge i 72 with q|q
 ·exact aK ab7 om om
 rcases Nat.lt_or_ge i 78 with q|q
 ·exact aK ab8 om om
 rcases Nat.lt_or_ge i 84 with q|q
 ·exact aK ab9 om om
 rcases Nat.lt_or_ge i 90 with q|q
 ·exact aK aca om om
 omega
theorem cj4 {i:Nat} (h:i<90):CD 4 i=true:=by
 rcases Nat.lt_or_ge i 6 with q|q
 ·exact aK agO om om
 rcases Nat.lt_or_ge i 12 with q|q
 ·exact aK agP om om
 rcases Nat.lt_or_ge i 18 with q|q
 ·exact aK agQ om om
 rcases Nat.lt_or_ge i 24 with q|q
 ·exact aK agR om om
 rcases Nat.lt_or_ge i 30 with q|q
 ·exact aK agS om om
 rcases Nat.lt_or_ge i 36 with q|q
 ·exact aK agT om om
 rcases Nat.lt_or_ge i 42 with q|q
 ·exact aK agU om om
 rcases Nat.lt_or_ge i 48 with q|q
 ·exact aK agV om om
 rcases Nat.lt_or_ge i 54 with q|q
 ·exact aK agW om om
 rcases Nat.lt_or_ge i 60 with q|q
 ·exact aK agX om om
 rcases Nat.lt_or_ge i 66 with q|q
 ·exact aK acb om om
 rcases Nat.lt_or_ge i 72 with q|q
 ·exact aK acd om om
 rcases Nat.lt_or_ge i 78 with q|q
 ·exact aK ace om om
 rcases Nat.lt_or_ge i 84 with q|q
 ·exact aK acf om om
 rcases Nat.lt_or_ge i 90 with q|q
 ·exact aK acg om om
 omega
theorem UT {n:Nat} (h:n∈[1,2,3,4]):agj n=true:=by
 simp only[List.mem_cons,List.not_mem_nil,or_false]at h;rcases h with rfl |rfl |rfl |rfl<;>decide+kernel
theorem BM {n:Nat} (h:n∈[1,2,3,4]) {i:Nat} (hi:i<90):CD n i=true:=by
 simp only[List.mem_cons,List.not_mem_nil,or_false]at h;rcases h with rfl |rfl |rfl |rfl
 ·exact cj1 hi
 ·exact cj2 hi
 ·exact cj3 hi
 ·exact cj4 hi
theorem NL {n:Nat} (h:n∈[1,2,3,4]) {i:Nat} (hi:i≤90):Gm n i=uN n i:=NK (UT h) i fun j hj=>by
 have:=BM h (i:=j) om;simp only[CD,Bool.and_eq_true]at this;exact this.1
theorem Ym {n:Nat} (h:n∈[1,2,3,4]) {i:Nat} (hi:i<90):okP n (Gm n i) (i+1)=true:=by
 have:=BM h hi;simp only[CD,NJ,Bool.and_eq_true]at this;rw[NL h om];exact this.1.1
theorem UU {n:Nat} (h:n∈[1,2,3,4]) {i:Nat} (hi:i<90):abI n i (Gm n i)=true:=by
 have:=BM h hi;simp only[CD,Bool.and_eq_true]at this;rw[NL h om];exact this.2
end Go.M
