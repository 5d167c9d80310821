/-
  Part 15 of the library that the proof leans on.
-/
import Derived.Test.YtgjfaieghmigjaaGreatDoorL14
namespace Go.M
open Go Go.Proofs
set_option maxRecDepth 100000
set_option maxHeartbeats 4000000
@[reducible] def stP (d:Array Int) (s:Int):Ob:=[(0,arrK d),(1,.cells [.s (.int .i64 s)])]
theorem order2_ok (d:Array Int) (a b:Nat) (s:Int) (ha:a<d.size) (hb:b<d.size):VC ES 219 2 [.tk 0,nI a,nI b,.ptr 1 0] (stP d s)
 (fun r o c=>∃(x y:Nat) (s':Int),(x=a∧y=b∨x=b∧y=a)∧r= .tup [nI x,nI y]∧c=2∧o=stP d s'):=by
 refine VC.enterR LS (show ES.func 219=some Tryz.f219 by kernel_rfl) (fun _ _=>rfl) rfl rfl [] ?_
 ((conv=>whnf)<;>repeat(with_reducible refine D1 ?_)<;>conv=>whnf)
 refine ldK b rfl hb ?_
 conv=>whnf
 refine ldK a rfl ha ?_
 conv=>whnf
 refine⟨[],[],_,_,_,_,less_ok d[b]! d[a]!,t3,?_⟩
 rintro r o' c' ⟨rfl,rfl,rfl⟩
 have hz_:=True.intro
 clear hz_
 cases h:Sort.ltInt d[b]! d[a]!
 ·((conv=>whnf)<;>repeat(with_reducible refine D1 ?_)<;>conv=>whnf)
  exact⟨[],[some 0,some 1],_,_,_,t3,a,b,s,.inl ⟨rfl,rfl⟩,rfl,rfl,rfl⟩
 ·((conv=>whnf)<;>repeat(with_reducible refine D1 ?_)<;>conv=>whnf)
  exact⟨[],[some 0,some 1],_,_,_,t3,b,a,_,.inr ⟨rfl,rfl⟩,rfl,rfl,rfl⟩
theorem median_ok (d:Array Int) (a b c:Nat) (s:Int) (ha:a<d.size) (hb:b<d.size) (hc:c<d.size):VC ES 199 2 [.tk 0,nI a,nI b,nI c,.ptr 1 0] (stP d s)
 (fun r o c1=>∃(x:Nat) (s':Int),(x=a∨x=b∨x=c)∧r=nI x∧c1=2∧o=stP d s'):=by
 refine VC.enterR LS (show ES.func 199=some Tryz.f199 by kernel_rfl) (fun _ _=>rfl) rfl rfl [] ?_
 conv=>whnf
 refine⟨[],[some 0,some 1],_,_,_,_,order2_ok d a b s (by omega) (by omega),t3,?_⟩
 rintro r o' c' ⟨x1,y1,s1,h1,rfl,rfl,rfl⟩
 conv=>whnf
 refine⟨[],[some 0,some 1],_,_,_,_,order2_ok d y1 c s1 (by omega) (by omega),t3,?_⟩
 rintro r o' c' ⟨x2,y2,s2,h2,rfl,rfl,rfl⟩
 conv=>whnf
 refine⟨[],[some 0,some 1],_,_,_,_,order2_ok d x1 x2 s2 (by omega) (by omega),t3,?_⟩
 rintro r o' c' ⟨x3,y3,s3,h3,rfl,rfl,rfl⟩
 conv=>whnf
 exact⟨[],[some 0,some 1],_,_,_,t3,y3,s3,by omega,rfl,rfl,rfl⟩
theorem medianA_ok (d:Array Int) (a:Nat) (s:Int) (h1:1≤a) (ha:a+1<d.size) (hl:d.size<1000000):VC ES 198 2 [.tk 0,nI a,.ptr 1 0] (stP d s)
 (fun r o c1=>∃(x:Nat) (s':Int),(x+1=a∨x=a∨x=a+1)∧r=nI x∧c1=2∧o=stP d s'):=by
 refine VC.enterR LS (show ES.func 198=some Tryz.f198 by kernel_rfl) (fun _ _=>rfl) rfl rfl [] ?_
 conv=>whnf
 refine⟨[],[some 0,some 1],_,_,_,_,median_ok d (a - 1) a (a+1) s (by omega) (by omega) ha,⟨by((repeat' first|exact LF|constructor);all_goals(first|exact Lz.int (wS (by omega) (by omega))|exact Lz.int (wA (by omega)))),by((repeat' first|exact LF|constructor);all_goals(first|exact Lz.int (wS (by omega) (by omega))|exact Lz.int (wA (by omega)))),by rfl⟩,?_⟩
 rintro r o' c' ⟨x,s1,hx,rfl,rfl,rfl⟩
 conv=>whnf
 exact⟨[],[some 0,some 1],_,_,_,t3,x,s1,by omega,rfl,rfl,rfl⟩
theorem medianA_i (d:Array Int) {x:Int} {a:Nat} (e:x=a) (s:Int) (h1:1≤a) (ha:a+1<d.size) (hl:d.size<1000000):VC ES 198 2 [.tk 0,.s (.int .i64 x),.ptr 1 0] (stP d s)
 (fun r o c1=>∃(x:Nat) (s':Int),(x+1=a∨x=a∨x=a+1)∧r=nI x∧c1=2∧o=stP d s'):=by
 subst e;exact medianA_ok d a s h1 ha hl
theorem median_i (d:Array Int) {x y z:Int} {a b c:Nat} (ea:x=a) (eb:y=b) (ec:z=c) (s:Int) (ha:a<d.size) (hb:b<d.size) (hc:c<d.size):VC ES 199 2 [.tk 0,.s (.int .i64 x),.s (.int .i64 y),.s (.int .i64 z),.ptr 1 0] (stP d s)
 (fun r o c1=>∃(x:Nat) (s':Int),(x=a∨x=b∨x=c)∧r=nI x∧c1=2∧o=stP d s'):=by
 subst ea;subst eb;subst ec;exact median_ok d a b c s ha hb hc
theorem pivot_ok (d:Array Int) (a b:Nat) (h12:a+12<b) (hb:b≤d.size) (hl:d.size<100000):VC ES 163 1 [.tk 0,nI a,nI b] [(0,arrK d)]
 (fun r o c=>∃(p:Nat) (h:Int),a≤p∧p<b∧0≤h∧h≤2∧r= .tup [nI p,.s (.int .i64 h)]∧c=1∧o=[(0,arrK d)]):=by
 have e1:IntKind.i64.wrap ((b:Int) - (a:Int))=((b - a:Nat):Int):=wD (by omega) (by omega)
 obtain⟨l,hl0⟩:∃l,l=b - a:=⟨_,rfl⟩
 rw[←hl0]at e1
 have ea:IntKind.i64.wrap ((a:Int)+IntKind.i64.wrap (IntKind.i64.wrap ((IntKind.i64.wrap ((b:Int) - (a:Int))).tdiv 4)*1))=((a+l / 4*1:Nat):Int):=by rw[e1];exact w4a (by omega)
 have eb:IntKind.i64.wrap ((a:Int)+IntKind.i64.wrap (IntKind.i64.wrap ((IntKind.i64.wrap ((b:Int) - (a:Int))).tdiv 4)*2))=((a+l / 4*2:Nat):Int):=by rw[e1];exact w4b (by omega)
 have ec:IntKind.i64.wrap ((a:Int)+IntKind.i64.wrap (IntKind.i64.wrap ((IntKind.i64.wrap ((b:Int) - (a:Int))).tdiv 4)*3))=((a+l / 4*3:Nat):Int):=by rw[e1];exact w4c (by omega)
 obtain⟨q,hq⟩:∃q,q=l / 4:=⟨_,rfl⟩
 rw[←hq]at ea eb ec
 have hq1:4*q≤l:=by omega
 have hq2:3≤q:=by omega
 refine VC.enterR LS (show ES.func 163=some Tryz.f163 by kernel_rfl) (fun _ _=>rfl) rfl rfl [] ?_
 conv=>whnf
 (first|refine⟨?_,?_⟩|refine nsplit ?_ ?_|refine bsplit ?_ ?_)<;>intro h8<;>have hz_:=True.intro<;>clear hz_
 ·conv=>whnf
  (first|refine⟨?_,?_⟩|refine nsplit ?_ ?_|refine bsplit ?_ ?_)<;>intro h50<;>have hz_:=True.intro<;>clear hz_
  ·conv=>whnf
   refine⟨[],[some 0,some 1],_,_,_,_,medianA_i d ea 0 (by omega) (by omega) (by omega),t3,?_⟩
   rintro r o' c' ⟨i1,s1,hi1,rfl,rfl,rfl⟩
   conv=>whnf
   refine⟨[],[some 0,some 1],_,_,_,_,medianA_i d eb s1 (by omega) (by omega) (by omega),t3,?_⟩
   rintro r o' c' ⟨i2,s2,hi2,rfl,rfl,rfl⟩
   conv=>whnf
   refine⟨[],[some 0,some 1],_,_,_,_,medianA_i d ec s2 (by omega) (by omega) (by omega),t3,?_⟩
   rintro r o' c' ⟨i3,s3,hi3,rfl,rfl,rfl⟩
   conv=>whnf
   refine⟨[],[some 0,some 1],_,_,_,_,median_ok d i1 i2 i3 s3 (by omega) (by omega) (by omega),t3,?_⟩
   rintro r o' c' ⟨p,s4,hp,rfl,rfl,rfl⟩
   conv=>whnf
   (first|refine⟨?_,?_⟩|refine nsplit ?_ ?_|refine bsplit ?_ ?_)<;>intro hs0<;>have hz_:=True.intro<;>clear hz_
   ·conv=>whnf
    exact⟨[],[some 0],_,_,_,t3,p,1,by omega,by omega,by omega,by omega,rfl,rfl,rfl⟩
   ·conv=>whnf
    (first|refine⟨?_,?_⟩|refine nsplit ?_ ?_|refine bsplit ?_ ?_)<;>intro hs1<;>have hz_:=True.intro<;>clear hz_
    ·conv=>whnf
     exact⟨[],[some 0],_,_,_,t3,p,2,by omega,by omega,by omega,by omega,rfl,rfl,rfl⟩
    ·conv=>whnf
     exact⟨[],[some 0],_,_,_,t3,p,0,by omega,by omega,by omega,by omega,rfl,rfl,rfl⟩
  ·conv=>whnf
   refine⟨[],[some 0,some 1],_,_,_,_,median_i d ea eb ec 0 (by omega) (by omega) (by omega),t3,?_⟩
   rintro r o' c' ⟨p,s4,hp,rfl,rfl,rfl⟩
   conv=>whnf
   (first|refine⟨?_,?_⟩|refine nsplit ?_ ?_|refine bsplit ?_ ?_)<;>intro hs0<;>have hz_:=True.intro<;>clear hz_
   ·conv=>whnf
    exact⟨[],[some 0],_,_,_,t3,p,1,by omega,by omega,by omega,by omega,rfl,rfl,rfl⟩
   ·conv=>whnf
    (first|refine⟨?_,?_⟩|refine nsplit ?_ ?_|refine bsplit ?_ ?_)<;>intro hs1<;>have hz_:=True.intro<;>clear hz_
    ·conv=>whnf
     exact⟨[],[some 0],_,_,_,t3,p,2,by omega,by omega,by omega,by omega,rfl,rfl,rfl⟩
    ·conv=>whnf
     exact⟨[],[some 0],_,_,_,t3,p,0,by omega,by omega,by omega,by omega,rfl,rfl,rfl⟩
 ·rw[e1]at h8
  exact absurd (show(l:Int)≥8 by omega) h8
end Go.M
