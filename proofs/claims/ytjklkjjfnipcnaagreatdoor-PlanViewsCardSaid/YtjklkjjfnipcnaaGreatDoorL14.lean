/-
  Part 14 of the library that the proof leans on.
-/
import Derived.Test.YtjklkjjfnipcnaaGreatDoorL12
import Derived.Test.YtjklkjjfnipcnaaGreatDoorL13
noncomputable section
namespace Go.M
open Go Go.Proofs
set_option maxRecDepth 100000
set_option maxHeartbeats 4000000
@[reducible] def JP (d:Array Int) (s:Int):Ob:=[(0,bD d),(1,.cells [.s (.int .i64 s)])]
theorem rI (d:Array Int) (a b:Nat) (s:Int) (ha:a<d.size) (hb:b<d.size):VC ES 210 2 [.tk 0,nI a,nI b,.ptr 1 0] (JP d s)
 (fun r o c=>∃(x y:Nat) (s':Int),(x=a∧y=b∨x=b∧y=a)∧r= .dH [nI x,nI y]∧c=2∧o=JP d s'):=by
 refine VC.bo LS (show ES.func 210=some Tryz.f210 by kernel_rfl) (fun _ _=>rfl) rfl rfl [] ?_;refine wh ?_;refine di b rfl hb ?_;refine wh ?_;refine di a rfl ha ?_;refine wh ?_;refine⟨[],[],_,_,_,_,dq d[b]! d[a]!,t3,?_⟩;rintro r o' c' ⟨rfl,rfl,rfl⟩;have iU:=True.intro;clear iU;cases h:Sort.ltInt d[b]! d[a]!
 ·refine wh ?_;exact⟨[],[some 0,some 1],_,_,_,t3,a,b,s,.inl ⟨rfl,rfl⟩,rfl,rfl,rfl⟩
 ·refine wh ?_;exact⟨[],[some 0,some 1],_,_,_,t3,b,a,_,.inr ⟨rfl,rfl⟩,rfl,rfl,rfl⟩
theorem rJ (d:Array Int) (a b c:Nat) (s:Int) (ha:a<d.size) (hb:b<d.size) (hc:c<d.size):VC ES 176 2 [.tk 0,nI a,nI b,nI c,.ptr 1 0] (JP d s)
 (fun r o c1=>∃(x:Nat) (s':Int),(x=a∨x=b∨x=c)∧r=nI x∧c1=2∧o=JP d s'):=by
 refine VC.bo LS (show ES.func 176=some Tryz.f176 by kernel_rfl) (fun _ _=>rfl) rfl rfl [] ?_;refine wh ?_;refine⟨[],[some 0,some 1],_,_,_,_,rI d a b s om om,t3,?_⟩;rintro r o' c' ⟨x1,y1,s1,h1,rfl,rfl,rfl⟩;refine wh ?_;refine⟨[],[some 0,some 1],_,_,_,_,rI d y1 c s1 om om,t3,?_⟩;rintro r o' c' ⟨x2,y2,s2,h2,rfl,rfl,rfl⟩;refine wh ?_;refine⟨[],[some 0,some 1],_,_,_,_,rI d x1 x2 s2 om om,t3,?_⟩;rintro r o' c' ⟨x3,y3,s3,h3,rfl,rfl,rfl⟩;refine wh ?_;exact⟨[],[some 0,some 1],_,_,_,t3,y3,s3,om,rfl,rfl,rfl⟩
theorem C6 (d:Array Int) (a:Nat) (s:Int) (h1:1≤a) (ha:a+1<d.size) (hl:d.size<1000000):VC ES 175 2 [.tk 0,nI a,.ptr 1 0] (JP d s)
 (fun r o c1=>∃(x:Nat) (s':Int),(x+1=a∨x=a∨x=a+1)∧r=nI x∧c1=2∧o=JP d s'):=by
 refine VC.bo LS (show ES.func 175=some Tryz.f175 by kernel_rfl) (fun _ _=>rfl) rfl rfl [] ?_;refine wh ?_;refine⟨[],[some 0,some 1],_,_,_,_,rJ d (a - 1) a (a+1) s om om ha,⟨by((repeat' first|exact LF|constructor);all_goals(first|exact Lz.int (wS om om)|exact Lz.int (wA om))),by((repeat' first|exact LF|constructor);all_goals(first|exact Lz.int (wS om om)|exact Lz.int (wA om))),by rfl⟩,?_⟩;rintro r o' c' ⟨x,s1,hx,rfl,rfl,rfl⟩;refine wh ?_;exact⟨[],[some 0,some 1],_,_,_,t3,x,s1,om,rfl,rfl,rfl⟩
theorem rL (d:Array Int) {x:Int} {a:Nat} (e:x=a) (s:Int) (h1:1≤a) (ha:a+1<d.size) (hl:d.size<1000000):VC ES 175 2 [.tk 0,.s (.int .i64 x),.ptr 1 0] (JP d s)
 (fun r o c1=>∃(x:Nat) (s':Int),(x+1=a∨x=a∨x=a+1)∧r=nI x∧c1=2∧o=JP d s'):=by
 subst e;exact C6 d a s h1 ha hl
theorem Iy (d:Array Int) {x y z:Int} {a b c:Nat} (ea:x=a) (eb:y=b) (ec:z=c) (s:Int) (ha:a<d.size) (hb:b<d.size) (hc:c<d.size):VC ES 176 2 [.tk 0,.s (.int .i64 x),.s (.int .i64 y),.s (.int .i64 z),.ptr 1 0] (JP d s)
 (fun r o c1=>∃(x:Nat) (s':Int),(x=a∨x=b∨x=c)∧r=nI x∧c1=2∧o=JP d s'):=by
 subst ea;subst eb;subst ec;exact rJ d a b c s ha hb hc
theorem vz (d:Array Int) (a b:Nat) (Iz:a+12<b) (hb:b≤d.size) (hl:d.size<100000):VC ES 128 1 [.tk 0,nI a,nI b] [(0,bD d)]
 (fun r o c=>∃(p:Nat) (h:Int),a≤p∧p<b∧0≤h∧h≤2∧r= .dH [nI p,.s (.int .i64 h)]∧c=1∧o=[(0,bD d)]):=by
 have e1:IntKind.i64.wrap ((b:Int) - (a:Int))=((b - a:Nat):Int):=wD om om;obtain⟨l,qB⟩:∃l,l=b - a:=⟨_,rfl⟩;rw[←qB]at e1;have ea:IntKind.i64.wrap ((a:Int)+IntKind.i64.wrap (IntKind.i64.wrap ((IntKind.i64.wrap ((b:Int) - (a:Int))).tdiv 4)*1))=((a+l / 4*1:Nat):Int):=by rw[e1];exact Xg om
 have eb:IntKind.i64.wrap ((a:Int)+IntKind.i64.wrap (IntKind.i64.wrap ((IntKind.i64.wrap ((b:Int) - (a:Int))).tdiv 4)*2))=((a+l / 4*2:Nat):Int):=by rw[e1];exact TX om
 have ec:IntKind.i64.wrap ((a:Int)+IntKind.i64.wrap (IntKind.i64.wrap ((IntKind.i64.wrap ((b:Int) - (a:Int))).tdiv 4)*3))=((a+l / 4*3:Nat):Int):=by rw[e1];exact Xh om
 obtain⟨q,hq⟩:∃q,q=l / 4:=⟨_,rfl⟩;rw[←hq]at ea eb ec;have JN:4*q≤l:=by omega
 have JO:3≤q:=by omega
 refine VC.bo LS (show ES.func 128=some Tryz.f128 by kernel_rfl) (fun _ _=>rfl) rfl rfl [] ?_;refine wh ?_;refine sp ?_ ?_<;>intro h8
 ·refine wh ?_;refine sp ?_ ?_<;>intro NG
  ·refine wh ?_;refine⟨[],[some 0,some 1],_,_,_,_,rL d ea 0 om om om,t3,?_⟩;rintro r o' c' ⟨i1,s1,Pz,rfl,rfl,rfl⟩;refine wh ?_;refine⟨[],[some 0,some 1],_,_,_,_,rL d eb s1 om om om,t3,?_⟩;rintro r o' c' ⟨i2,s2,Ms,rfl,rfl,rfl⟩;refine wh ?_;refine⟨[],[some 0,some 1],_,_,_,_,rL d ec s2 om om om,t3,?_⟩;rintro r o' c' ⟨i3,s3,Xk,rfl,rfl,rfl⟩;refine wh ?_;refine⟨[],[some 0,some 1],_,_,_,_,rJ d i1 i2 i3 s3 om om om,t3,?_⟩;rintro r o' c' ⟨p,s4,hp,rfl,rfl,rfl⟩;refine wh ?_;refine sp ?_ ?_<;>intro RB
   ·refine wh ?_;exact⟨[],[some 0],_,_,_,t3,p,1,om,by omega,om,by omega,rfl,rfl,rfl⟩
   ·refine wh ?_;refine sp ?_ ?_<;>intro zJ
    ·refine wh ?_;exact⟨[],[some 0],_,_,_,t3,p,2,om,by omega,om,by omega,rfl,rfl,rfl⟩
    ·refine wh ?_;exact⟨[],[some 0],_,_,_,t3,p,0,om,by omega,om,by omega,rfl,rfl,rfl⟩
  ·refine wh ?_;refine⟨[],[some 0,some 1],_,_,_,_,Iy d ea eb ec 0 om om om,t3,?_⟩;rintro r o' c' ⟨p,s4,hp,rfl,rfl,rfl⟩;refine wh ?_;refine sp ?_ ?_<;>intro RB
   ·refine wh ?_;exact⟨[],[some 0],_,_,_,t3,p,1,om,by omega,om,by omega,rfl,rfl,rfl⟩
   ·refine wh ?_;refine sp ?_ ?_<;>intro zJ
    ·refine wh ?_;exact⟨[],[some 0],_,_,_,t3,p,2,om,by omega,om,by omega,rfl,rfl,rfl⟩
    ·refine wh ?_;exact⟨[],[some 0],_,_,_,t3,p,0,om,by omega,om,by omega,rfl,rfl,rfl⟩
 ·rw[e1]at h8;exact absurd (show(l:Int)≥8 by omega) h8
end Go.M
end
