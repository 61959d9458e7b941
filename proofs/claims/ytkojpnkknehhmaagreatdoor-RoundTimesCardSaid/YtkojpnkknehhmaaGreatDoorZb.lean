/- Plain: the sine as a polynomial; a walk that shows that it keeps far from whole numbers. Plain: the walk of a block of angles. -/
import Derived.Test.YtkojpnkknehhmaaGreatDoorEc
set_option maxRecDepth 100000
namespace Go.Proofs.YtkojpnkknehhmaaGreatDoor
open Go.RowKit
namespace Sun
def frc {α:Type} (n:Nat) (k:Nat->α):α:=Nat.casesOn (motive:=fun _=>α) n (k 0) (fun m=>k m.succ)
theorem uw {α:Type} (n:Nat) (k:Nat->α):frc n k=k n:=by cases n<;>rfl
def ev (x:Nat):List Nat->Nat
 |[]=>0
 |c::r=>c+x*ev x r
def tay (a:Nat):List Nat->Nat->Nat
 |[],_=>0
 |c::r,0=>a*tay a r 0+c
 |_::r,j+1=>a*tay a r (j+1)+tay a r j
def Ww (a t:Nat):List Nat->Nat
 |[]=>0
 |_::r=>tay a r 5+(a+t)*Ww a t r
theorem Oo (a t:Nat):∀l:List Nat,ev (a+t) l=tay a l 0+tay a l 1*t+tay a l 2*t ^ 2+tay a l 3*t ^ 3+tay a l 4*t ^ 4+tay a l 5*t ^ 5+t ^ 6*Ww a t l
 |[]=>by simp[ev,tay,Ww]
 |c::r=>by
  have ih:=Oo a t r;simp only[ev,tay,Ww,ih];generalize tay a r 0=x0;generalize tay a r 1=x1;generalize tay a r 2=x2;generalize tay a r 3=x3;generalize tay a r 4=x4;generalize tay a r 5=x5;generalize Ww a t r=y;clear ih;grind
theorem Xs {a b:Nat} (h:a<=b):∀(l:List Nat) (j:Nat),tay a l j<=tay b l j
 |[],_=>Nat.le_refl _
 |c::r,0=>Nat.add_le_add_right (Nat.mul_le_mul h (Xs h r 0)) _
 |c::r,j+1=>Nat.add_le_add (Nat.mul_le_mul h (Xs h r (j+1))) (Xs h r j)
theorem UQ {a b t w:Nat} (h:a<=b) (h':t<=w):∀l:List Nat,Ww a t l<=Ww b w l
 |[]=>Nat.le_refl _
 |_::r=>Nat.add_le_add (Xs h r 5) (Nat.mul_le_mul (by omega) (UQ h h' r))
noncomputable def t6 {α:Type} (a:Nat) (l:List Nat):(Nat->Nat->Nat->Nat->Nat->Nat->α)->α :=
 List.rec (motive:=fun _=>(Nat->Nat->Nat->Nat->Nat->Nat->α)->α) (fun k=>k 0 0 0 0 0 0)
  (fun c _ r k=>r fun x0 x1 x2 x3 x4 x5=>frc (Nat.add (Nat.mul a x0) c) fun y0=>frc (Nat.add (Nat.mul a x1) x0) fun y1=>frc (Nat.add (Nat.mul a x2) x1) fun y2=>frc (Nat.add (Nat.mul a x3) x2) fun y3=>frc (Nat.add (Nat.mul a x4) x3) fun y4=>frc (Nat.add (Nat.mul a x5) x4) fun y5=>k y0 y1 y2 y3 y4 y5) l
theorem HR {α:Type} (a:Nat):∀(l:List Nat) (k:Nat->Nat->Nat->Nat->Nat->Nat->α),t6 a l k=k (tay a l 0) (tay a l 1) (tay a l 2) (tay a l 3) (tay a l 4) (tay a l 5)
 |[],k=>rfl
 |c::r,k=>by
  show t6 a r _=_;rw[HR a r];simp only[uw];rfl
noncomputable def t7 {α:Type} (a t:Nat) (l:List Nat):(Nat->Nat->Nat->Nat->Nat->Nat->Nat->α)->α :=
 List.rec (motive:=fun _=>(Nat->Nat->Nat->Nat->Nat->Nat->Nat->α)->α) (fun k=>k 0 0 0 0 0 0 0)
  (fun c _ r k=>r fun x0 x1 x2 x3 x4 x5 x6=>frc (Nat.add (Nat.mul a x0) c) fun y0=>frc (Nat.add (Nat.mul a x1) x0) fun y1=>frc (Nat.add (Nat.mul a x2) x1) fun y2=>frc (Nat.add (Nat.mul a x3) x2) fun y3=>frc (Nat.add (Nat.mul a x4) x3) fun y4=>frc (Nat.add (Nat.mul a x5) x4) fun y5=>frc (Nat.add x5 (Nat.mul (Nat.add a t) x6)) fun y6=>k y0 y1 y2 y3 y4 y5 y6) l
theorem JJ {α:Type} (a t:Nat):∀(l:List Nat) (k:Nat->Nat->Nat->Nat->Nat->Nat->Nat->α),t7 a t l k=k (tay a l 0) (tay a l 1) (tay a l 2) (tay a l 3) (tay a l 4) (tay a l 5) (Ww a t l)
 |[],k=>rfl
 |c::r,k=>by
  show t7 a t r _=_;rw[JJ a t r];simp only[uw];rfl
section
variable (a0 c0 b1 b2 b3 b4 b5 w2:Nat)
def vA (c:Nat):Nat:=Nat.mod (Nat.sub (Nat.add (Nat.add c0 (Nat.mul c b1)) (Nat.add (Nat.mul (Nat.mul (Nat.mul c c) (Nat.mul c c)) (Nat.add b4 (Nat.mul c b5))) 5986310706507378352962293074805895248510699696029696)) (Nat.mul (Nat.mul c c) (Nat.add b2 (Nat.mul c b3)))) 1461501637330902918203684832716283019655932542976
def vB (c:Nat):Nat:=Nat.mod (Nat.sub (Nat.add (Nat.add b1 (Nat.mul (Nat.mul c (Nat.mul c c)) (Nat.add (Nat.mul 4 b4) (Nat.mul (Nat.mul 5 c) b5)))) 1461501637330902918203684832716283019655932542976) (Nat.mul c (Nat.add (Nat.mul 2 b2) (Nat.mul (Nat.mul 3 c) b3)))) 1461501637330902918203684832716283019655932542976
def mn (x y:Nat):Nat:=cond (Nat.ble x y) x y
def exc (a:Nat):Bool:=cond (Nat.beq a 30000000) true (cond (Nat.beq a 0) true (Nat.ble 90000000 a))
def sgl (r:Nat->Nat->Nat->Bool) (t q1 q2:Nat):Bool :=
 frc (vA c0 b1 b2 b3 b4 b5 t) fun x=>cond (cond (Nat.ble 340282366920938463463374607431768211457 x) (Nat.ble (Nat.add x 340282366920938463463374607431768211457) 1461501637330902918203684832716283019655932542976) false) (r (Nat.succ t) q1 q2) (cond (exc (Nat.add a0 t)) (r (Nat.succ t) q1 q2) false)
def stp (r:Nat->Nat->Nat->Bool) (t q1 q2:Nat):Bool :=
 cond (Nat.ble 131072 t) true
  (frc (Nat.mod (Nat.mul q1 (vB b1 b2 b3 b4 b5 t)) 1461501637330902918203684832716283019655932542976) fun y=>frc (Nat.div 1461501637330902918203684832716283019655932542976 (Nat.add q1 q2)) fun e =>
  cond (cond (Nat.ble y 730750818665451459101842416358141509827966271488) false (Nat.ble (Nat.add y e) 1461501637330902918203684832716283019655932542976)) (frc (Nat.sub (Nat.mul (Nat.div (Nat.add 300 q1) q2) q2) q1) fun q3=>r t q2 q3)
  (frc (Nat.mod (Nat.mul q1 (vA c0 b1 b2 b3 b4 b5 t)) 1461501637330902918203684832716283019655932542976) fun x=>frc (Nat.mul q1 (Nat.add b2 (Nat.mul (Nat.mul 3 b3) t))) fun k =>
   cond (Nat.ble y 730750818665451459101842416358141509827966271488)
   (frc (mn (mn (Nat.div (Nat.add e y) (Nat.mul 2 k)) 1500) (Nat.sub 131071 t)) fun n=>frc (Nat.succ (Nat.mul q1 (Nat.add 340282366920938463463374607431768211456 (Nat.mul (Nat.add (Nat.mul b3 n) w2) (Nat.mul n n))))) fun s =>
    cond (cond (Nat.ble s x) (Nat.ble (Nat.add x s) 1461501637330902918203684832716283019655932542976) false)
    (frc (mn n (cond (Nat.ble (Nat.mul y y) (Nat.mul (Nat.mul 4 k) (Nat.sub (Nat.sub 1461501637330902918203684832716283019655932542976 s) x))) (Nat.div y k) (Nat.div (Nat.sub (Nat.sub 1461501637330902918203684832716283019655932542976 s) x) y))) fun n' =>
     cond (cond (Nat.ble (Nat.add (Nat.mul k (Nat.mul n' n')) s) (Nat.add x (Nat.mul y n'))) (cond (Nat.ble (Nat.add (Nat.add x (Nat.mul y n')) s) 1461501637330902918203684832716283019655932542976) true (Nat.ble (Nat.mul y y) (Nat.mul (Nat.mul 4 k) (Nat.sub (Nat.sub 1461501637330902918203684832716283019655932542976 s) x)))) false)
     (frc (Nat.add t (Nat.succ n')) fun t=>r t q1 q2) (sgl a0 c0 b1 b2 b3 b4 b5 r t q1 q2))
    (sgl a0 c0 b1 b2 b3 b4 b5 r t q1 q2))
   (frc (Nat.sub 1461501637330902918203684832716283019655932542976 y) fun y=>frc (mn (mn (Nat.div (Nat.sub e y) (Nat.mul 2 k)) 1500) (Nat.sub 131071 t)) fun n=>frc (Nat.succ (Nat.mul q1 (Nat.add 340282366920938463463374607431768211456 (Nat.mul (Nat.add (Nat.mul b3 n) w2) (Nat.mul n n))))) fun s =>
    cond (cond (Nat.ble s x) (Nat.ble (Nat.add x s) 1461501637330902918203684832716283019655932542976) false)
    (frc (mn n (Nat.div x y)) fun n0=>frc (mn n0 (Nat.succ (Nat.div (Nat.add x (Nat.mul k (Nat.mul n0 n0))) (Nat.add y (Nat.mul 2 (Nat.mul k n0)))))) fun n0=>frc (mn n0 (Nat.succ (Nat.div (Nat.add x (Nat.mul k (Nat.mul n0 n0))) (Nat.add y (Nat.mul 2 (Nat.mul k n0)))))) fun n0 =>
     frc (mn n (Nat.div (Nat.sub x s) (Nat.add y (Nat.mul k n0)))) fun n' =>
     cond (Nat.ble (Nat.add (Nat.mul n' (Nat.add y (Nat.mul k n'))) s) x) (frc (Nat.add t (Nat.succ n')) fun t=>r t q1 q2) (sgl a0 c0 b1 b2 b3 b4 b5 r t q1 q2))
    (sgl a0 c0 b1 b2 b3 b4 b5 r t q1 q2))))
def GX (f:Nat):Nat->Nat->Nat->Bool :=
 Nat.rec (motive:=fun _=>Nat->Nat->Nat->Bool) (fun t _ _=>Nat.ble 131072 t) (fun _ r t q1 q2=>stp a0 c0 b1 b2 b3 b4 b5 w2 r t q1 q2) f
def O7 {α:Type} (fr:Nat) (k:Nat->Nat->α) (r:Nat->Nat->Nat->Nat->α) (lp lq hp hq:Nat):α :=
 frc (Nat.add lq hq) fun mq=>cond (Nat.ble mq 300) (frc (Nat.add lp hp) fun mp=>cond (Nat.ble (Nat.mul mp 1461501637330902918203684832716283019655932542976) (Nat.mul fr mq)) (r mp mq hp hq) (r lp lq mp mq)) (k hq lq)
def HP {α:Type} (fr:Nat) (k:Nat->Nat->α) (f:Nat):Nat->Nat->Nat->Nat->α :=
 Nat.rec (motive:=fun _=>Nat->Nat->Nat->Nat->α) (fun _ lq _ hq=>k hq lq) (fun _ r=>O7 fr k r) f
def pol (t:Int):Int:=c0+b1*t-b2*t ^ 2-b3*t ^ 3+b4*t ^ 4+b5*t ^ 5
def slo (t:Int):Int:=b1-2*b2*t-3*b3*t ^ 2+4*b4*t ^ 3+5*b5*t ^ 4
def Far (t:Nat):Prop:=∀N:Int,340282366920938463463374607431768211456<pol c0 b1 b2 b3 b4 b5 t-N*1461501637330902918203684832716283019655932542976\/pol c0 b1 b2 b3 b4 b5 t-N*1461501637330902918203684832716283019655932542976 < -340282366920938463463374607431768211456
end
section
variable {a0 c0 b1 b2 b3 b4 b5 w2:Nat}
theorem zcy (m t:Nat) (h1:t*t*(b2+t*b3)<=m*4096):∃u:Int,pol c0 b1 b2 b3 b4 b5 t=(((c0+t*b1+(t*t*(t*t)*(b4+t*b5)+m*4096)-t*t*(b2+t*b3)) % m:Nat):Int)+u*(m:Int):=by
 generalize hX:c0+t*b1+(t*t*(t*t)*(b4+t*b5)+m*4096)=X;have hle:t*t*(b2+t*b3)<=X:=by rw[<- hX];omega
 have hd:=Nat.div_add_mod (X-t*t*(b2+t*b3)) m;refine⟨((X-t*t*(b2+t*b3)) / m:Nat)-4096,?_⟩;generalize (X-t*t*(b2+t*b3)) % m=v at *;generalize (X-t*t*(b2+t*b3)) / m=u at *;have e:(X:Int)-(t:Int)*t*(b2+t*b3)=m*u+v:=by
  have:(((X-t*t*(b2+t*b3):Nat)):Int)=((m*u+v:Nat):Int):=by rw[hd]
  rw[Int.ofNat_sub hle] at this;push_cast at this
  exact this
 have e2:(X:Int)=c0+t*b1+(t*t*(t*t)*(b4+t*b5)+m*4096):=by rw[<- hX];push_cast;rfl
 unfold pol;rw[e2] at e;clear hX hle hd h1 e2;grind
theorem zcz (m t:Nat) (h1:t*(2*b2+3*t*b3)<=m):∃u:Int,slo b1 b2 b3 b4 b5 t=(((b1+t*(t*t)*(4*b4+5*t*b5)+m-t*(2*b2+3*t*b3)) % m:Nat):Int)+u*(m:Int):=by
 generalize hX:b1+t*(t*t)*(4*b4+5*t*b5)+m=X;have hle:t*(2*b2+3*t*b3)<=X:=by rw[<- hX];omega
 have hd:=Nat.div_add_mod (X-t*(2*b2+3*t*b3)) m;refine⟨((X-t*(2*b2+3*t*b3)) / m:Nat)-1,?_⟩;generalize (X-t*(2*b2+3*t*b3)) % m=v at *;generalize (X-t*(2*b2+3*t*b3)) / m=u at *;have e:(X:Int)-(t:Int)*(2*b2+3*t*b3)=m*u+v:=by
  have:(((X-t*(2*b2+3*t*b3):Nat)):Int)=((m*u+v:Nat):Int):=by rw[hd]
  rw[Int.ofNat_sub hle] at this;push_cast at this
  exact this
 have e2:(X:Int)=b1+t*(t*t)*(4*b4+5*t*b5)+m:=by rw[<- hX];push_cast;rfl
 unfold slo;rw[e2] at e;clear hX hle hd h1 e2;grind
theorem JR (hb:b2+131072*b3<=87112285931760246646623899502532662132736) {t:Nat} (ht:t<=131072):∃u:Int,pol c0 b1 b2 b3 b4 b5 t=(vA c0 b1 b2 b3 b4 b5 t:Nat)+u*((1461501637330902918203684832716283019655932542976:Nat):Int):=by
 have h1:t*t*(b2+t*b3)<=5986310706507378352962293074805895248510699696029696:=by
  have h2:t*t<=131072*131072:=Nat.mul_le_mul ht ht;have h3:b2+t*b3<=87112285931760246646623899502532662132736:=Nat.le_trans (Nat.add_le_add_left (Nat.mul_le_mul_right _ ht) _) hb;exact Nat.le_trans (Nat.mul_le_mul h2 h3) (by decide)
 exact zcy 1461501637330902918203684832716283019655932542976 t h1
theorem G9 (hb:b2+131072*b3<=87112285931760246646623899502532662132736) {t:Nat} (ht:t<=131072):∃u:Int,slo b1 b2 b3 b4 b5 t=(vB b1 b2 b3 b4 b5 t:Nat)+u*((1461501637330902918203684832716283019655932542976:Nat):Int):=by
 have h1:t*(2*b2+3*t*b3)<=1461501637330902918203684832716283019655932542976:=by
  have h3:2*b2+3*t*b3<=3*87112285931760246646623899502532662132736:=by
   have:t*b3<=131072*b3:=Nat.mul_le_mul_right _ ht;rw[Nat.mul_assoc];omega
  exact Nat.le_trans (Nat.mul_le_mul ht h3) (by decide)
 exact zcz 1461501637330902918203684832716283019655932542976 t h1
theorem zcB (t d:Nat) (hd:t+d<=131072) (hw:w2=103079215104*b4+22517998136852480*b5) {n:Nat} (hn:d<=n):∃ρ:Int,pol c0 b1 b2 b3 b4 b5 (t+d:Nat)=pol c0 b1 b2 b3 b4 b5 t+slo b1 b2 b3 b4 b5 t*d-((b2+3*b3*t:Nat):Int)*d ^ 2+ρ /\ -(((b3*n+w2)*(n*n):Nat):Int)<=ρ/\ρ<=(((b3*n+w2)*(n*n):Nat):Int):=by
 refine⟨(((b4*(6*t ^ 2+4*t*d+d ^ 2)+b5*(10*t ^ 3+10*t ^ 2*d+5*t*d ^ 2+d ^ 3))*(d*d):Nat):Int)-((b3*d*(d*d):Nat):Int),?_,?_,?_⟩
 ·unfold pol slo;push_cast
  clear hd hw hn;grind
 ·have h1:b3*d*(d*d)<=(b3*n+w2)*(n*n):=Nat.mul_le_mul (Nat.le_trans (Nat.mul_le_mul_left _ hn) (Nat.le_add_right _ _)) (Nat.mul_le_mul hn hn);omega
 ·have h0:t<=131072:=by omega
  have hd':d<=131072:=by omega
  have s2:6*t ^ 2+4*t*d+d ^ 2<=103079215104:=by
   have:6*t ^ 2+4*t*d+d ^ 2<=6*((t+d)*(t+d)):=by
    have e:6*((t+d)*(t+d))=6*t ^ 2+12*(t*d)+6*(d*d):=by grind
    have e2:6*t ^ 2+4*t*d+d ^ 2=6*t ^ 2+4*(t*d)+d*d:=by grind
    omega
   have h3:=Nat.mul_le_mul hd hd;omega
  have s3:10*t ^ 3+10*t ^ 2*d+5*t*d ^ 2+d ^ 3<=22517998136852480:=by
   have:10*t ^ 3+10*t ^ 2*d+5*t*d ^ 2+d ^ 3<=10*((t+d)*(t+d)*(t+d)):=by
    have e:10*((t+d)*(t+d)*(t+d))=10*t ^ 3+30*(t*t*d)+30*(t*d*d)+10*(d*d*d):=by grind
    have e2:10*t ^ 3+10*t ^ 2*d+5*t*d ^ 2+d ^ 3=10*t ^ 3+10*(t*t*d)+5*(t*d*d)+d*d*d:=by grind
    omega
   have h3:=Nat.mul_le_mul (Nat.mul_le_mul hd hd) hd;omega
  have h1:(b4*(6*t ^ 2+4*t*d+d ^ 2)+b5*(10*t ^ 3+10*t ^ 2*d+5*t*d ^ 2+d ^ 3))*(d*d)<=(b3*n+w2)*(n*n):=by
   refine Nat.mul_le_mul ?_ (Nat.mul_le_mul hn hn);have m1:=Nat.mul_le_mul_left b4 s2;have m2:=Nat.mul_le_mul_left b5 s3;omega
  omega
theorem KA {q z:Int} {t:Nat} (hq:0<q) (w:Int) (he:q*pol c0 b1 b2 b3 b4 b5 t=z+w*1461501637330902918203684832716283019655932542976) (h1:q*340282366920938463463374607431768211456+1<=z) (h2:z<=1461501637330902918203684832716283019655932542976-q*340282366920938463463374607431768211456-1):Far c0 b1 b2 b3 b4 b5 t:=by
 intro N;generalize pol c0 b1 b2 b3 b4 b5 t=P at *;rcases Int.lt_or_le 340282366920938463463374607431768211456 (P-N*1461501637330902918203684832716283019655932542976) with h | h
 ·exact .inl h
 right;rcases Int.lt_or_le (P-N*1461501637330902918203684832716283019655932542976) (-340282366920938463463374607431768211456) with h' | h'
 ·exact h'
 exfalso;have e:q*(P-N*1461501637330902918203684832716283019655932542976)=z+(w-q*N)*1461501637330902918203684832716283019655932542976:=by
  rw[Int.mul_sub,he];grind
 have u1:q*(P-N*1461501637330902918203684832716283019655932542976)<=q*340282366920938463463374607431768211456:=Int.mul_le_mul_of_nonneg_left h (by omega);have u2:q*(-340282366920938463463374607431768211456)<=q*(P-N*1461501637330902918203684832716283019655932542976):=Int.mul_le_mul_of_nonneg_left h' (by omega);rw[e] at u1 u2;generalize w-q*N=j at *;rcases Int.lt_trichotomy j 0 with hj | hj | hj
 ·have:j*1461501637330902918203684832716283019655932542976 <= -1*1461501637330902918203684832716283019655932542976:=Int.mul_le_mul_of_nonneg_right (by omega) (by decide);omega
 ·subst hj;omega
 ·have:1*1461501637330902918203684832716283019655932542976<=j*1461501637330902918203684832716283019655932542976:=Int.mul_le_mul_of_nonneg_right (by omega) (by decide);omega
end
section
variable {a0 c0 b1 b2 b3 b4 b5 w2:Nat}
theorem zai (hb:b2+131072*b3<=87112285931760246646623899502532662132736) (hw:w2=103079215104*b4+22517998136852480*b5) {t n q s x k:Nat} {y:Int} (ht:t+n<=131072) (hq:0<q) (hx:x=q*vA c0 b1 b2 b3 b4 b5 t % 1461501637330902918203684832716283019655932542976) (hy:∃v:Int,q*slo b1 b2 b3 b4 b5 t=y+v*1461501637330902918203684832716283019655932542976) (hk:k=q*(b2+3*b3*t))
  (hs:s=q*(340282366920938463463374607431768211456+(b3*n+w2)*(n*n))+1) (hg:∀d:Nat,d<=n->(s:Int)<=x+y*d-k*(d*d)/\(x:Int)+y*d-k*(d*d)<=1461501637330902918203684832716283019655932542976-s):∀d:Nat,d<=n->Far c0 b1 b2 b3 b4 b5 (t+d):=by
 intro d hd;obtain ⟨u,hu⟩:=JR (c0:=c0) (b1:=b1) (b4:=b4) (b5:=b5) hb (t:=t) (by omega);obtain ⟨v,hv⟩:=hy;obtain ⟨ρ,h1,h2,h3⟩:=zcB (c0:=c0) (b1:=b1) (b2:=b2) (b3:=b3) (b4:=b4) (b5:=b5) t d (by omega) hw hd;have hdm:=Nat.div_add_mod (q*vA c0 b1 b2 b3 b4 b5 t) 1461501637330902918203684832716283019655932542976;rw[<- hx] at hdm;generalize q*vA c0 b1 b2 b3 b4 b5 t / 1461501637330902918203684832716283019655932542976=a at hdm;have hqv:(q:Int)*(vA c0 b1 b2 b3 b4 b5 t:Nat)=1461501637330902918203684832716283019655932542976*a+x:=by
  have:((q*vA c0 b1 b2 b3 b4 b5 t:Nat):Int)=((1461501637330902918203684832716283019655932542976*a+x:Nat):Int):=by rw[hdm]
  rw[Int.natCast_mul,Int.natCast_add,Int.natCast_mul] at this;exact this
 obtain ⟨g1,g2⟩:=hg d hd;generalize vA c0 b1 b2 b3 b4 b5 t=w at *;generalize slo b1 b2 b3 b4 b5 t=σ at *;have hqP:(q:Int)*pol c0 b1 b2 b3 b4 b5 t=x+(a+q*u)*1461501637330902918203684832716283019655932542976:=by
  rw[hu,Int.mul_add,hqv];have:(((1461501637330902918203684832716283019655932542976:Nat)):Int)=1461501637330902918203684832716283019655932542976:=rfl;rw[this];grind
 generalize pol c0 b1 b2 b3 b4 b5 t=P at *;generalize hB:(b3*n+w2)*(n*n)=B at *;have hkI:(k:Int)=q*((b2+3*b3*t:Nat):Int):=by rw[hk,Int.natCast_mul]
 generalize ((b2+3*b3*t:Nat):Int)=κ at *;have r1:(q:Int)*(-(B:Int))<=q*ρ:=Int.mul_le_mul_of_nonneg_left h2 (by omega);have r2:(q:Int)*ρ<=q*B:=Int.mul_le_mul_of_nonneg_left h3 (by omega);have hsI:(s:Int)=q*340282366920938463463374607431768211456+q*B+1:=by
  rw[hs,Int.natCast_add,Int.natCast_mul,Int.natCast_add,Int.mul_add];rfl
 have e:(q:Int)*pol c0 b1 b2 b3 b4 b5 (t+d:Nat)=(x+y*d-k*(d*d)+q*ρ)+(a+q*u+v*d)*1461501637330902918203684832716283019655932542976:=by
  rw[h1];have e1:(q:Int)*(P+σ*d-κ*d ^ 2+ρ)=q*P+(q*σ)*d-q*κ*(d*d)+q*ρ:=by grind
  rw[e1,hqP,hv,<- hkI];grind
 rw[Int.mul_neg] at r1;refine KA (q:=q) (by omega) _ e ?_ ?_
 ·generalize (x:Int)+y*d-k*(d*d)=g at *;generalize (q:Int)*ρ=z at *;generalize (q:Int)*B=o at *;omega
 ·generalize (x:Int)+y*d-k*(d*d)=g at *;generalize (q:Int)*ρ=z at *;generalize (q:Int)*B=o at *;omega
theorem G8 {x y k s n d:Int} (hk:0<=k) (hd0:0<=d) (hd:d<=n) (h1:s<=x) (h2:k*(n*n)+s<=x+y*n):s<=x+y*d-k*(d*d):=by
 have e:x+y*d-k*(d*d)=x+d*(y-k*d):=by grind
 have e2:x+y*n-k*(n*n)=x+n*(y-k*n):=by grind
 have m:d*(y-k*n)<=d*(y-k*d):=Int.mul_le_mul_of_nonneg_left (by have:=Int.mul_le_mul_of_nonneg_left hd hk;omega) hd0;rw[e];rcases Int.lt_or_le (y-k*n) 0 with h | h
 ·have:n*(y-k*n)<=d*(y-k*n):=by
   have:=Int.mul_le_mul_of_nonneg_right hd (show 0 <= -(y-k*n) by omega);rw[Int.mul_neg,Int.mul_neg] at this;omega
  omega
 ·have:0<=d*(y-k*n):=Int.mul_nonneg hd0 h;omega
theorem Ho {x y k s n d m:Int} (hk:0<=k) (hy:0<=y) (hd0:0<=d) (hd:d<=n) (h1:x+s<=m) (h2:x+y*n+s<=m\/y*y<=4*k*(m-s-x)):x+y*d-k*(d*d)<=m-s:=by
 have hkd:0<=k*(d*d):=Int.mul_nonneg hk (Int.mul_nonneg hd0 hd0);rcases h2 with h2 | h2
 ·have:=Int.mul_le_mul_of_nonneg_left hd hy;omega
 ·rcases Int.lt_or_le 0 k with hk' | hk'
  ·have e:4*k*(y*d-k*(d*d))=y*y-(y-2*k*d)*(y-2*k*d):=by grind
   have sq:0<=(y-2*k*d)*(y-2*k*d):=by
    rcases Int.le_total 0 (y-2*k*d) with h | h
    ·exact Int.mul_nonneg h h
    ·exact Int.mul_nonneg_of_nonpos_of_nonpos h h
   have:4*k*(y*d-k*(d*d))<=4*k*(m-s-x):=by omega
   have:=Int.le_of_mul_le_mul_left this (by omega);omega
  ·have hk0:k=0:=by omega
   subst hk0;have:y*y<=0:=by simpa using h2
   have hy0:y=0:=by
    rcases Int.lt_or_le 0 y with h | h
    ·have:=Int.mul_pos h h;omega
    ·omega
   subst hy0;simp;omega
theorem cnd {c a b:Bool} (h:cond c a b=true):c=true/\a=true\/c=false/\b=true:=by cases c<;>simp_all
theorem Y4 {c a:Bool} (h:cond c a false=true):c=true/\a=true:=by cases c<;>simp_all
theorem wO {a b:Nat} (h:Nat.ble a b=true):a<=b:=Nat.le_of_ble_eq_true h
theorem Dy {a b:Nat} (h:Nat.ble a b=false):b<a:=by
 rcases Nat.lt_or_ge b a with h' | h'
 ·exact h'
 ·rw[Nat.ble_eq_true_of_le h'] at h;cases h
def Ok (a0 c0 b1 b2 b3 b4 b5:Nat) (r:Nat->Nat->Nat->Bool):Prop:=∀t q1 q2,r t q1 q2=true->∀d,t<=d->d<131072->Far c0 b1 b2 b3 b4 b5 d\/exc (a0+d)=true
theorem G1 (hb:b2+131072*b3<=87112285931760246646623899502532662132736) {r:Nat->Nat->Nat->Bool} (hr:Ok a0 c0 b1 b2 b3 b4 b5 r) {t q1 q2:Nat} (ht:t<131072) (h:sgl a0 c0 b1 b2 b3 b4 b5 r t q1 q2=true):∀d,t<=d->d<131072->Far c0 b1 b2 b3 b4 b5 d\/exc (a0+d)=true:=by
 unfold sgl at h;rw[uw] at h;have next:∀ {P:Nat->Prop},P t->r (Nat.succ t) q1 q2=true->∀d,t<=d->d<131072->P d\/(Far c0 b1 b2 b3 b4 b5 d\/exc (a0+d)=true):=fun h0 hn d h1 h2=>by
  rcases Nat.lt_or_ge t d with h3 | h3
  ·exact .inr (hr _ _ _ hn d h3 h2)
  ·have:d=t:=by omega
   subst this;exact .inl h0
 rcases cnd h with ⟨hc,hn⟩ | ⟨_,h⟩
 ·obtain ⟨h1,h2⟩:=Y4 hc;have h1:=wO h1;have h2:vA c0 b1 b2 b3 b4 b5 t+340282366920938463463374607431768211457<=1461501637330902918203684832716283019655932542976:=wO h2;have hf:Far c0 b1 b2 b3 b4 b5 t:=by
   obtain ⟨u,hu⟩:=JR (c0:=c0) (b1:=b1) (b4:=b4) (b5:=b5) hb (t:=t) (by omega);refine KA (q:=1) (z:=(vA c0 b1 b2 b3 b4 b5 t:Nat)) (by decide) u (by rw[Int.one_mul,hu];rfl) (by omega) (by omega)
  intro d h1 h2;exact(next (P:=fun d=>Far c0 b1 b2 b3 b4 b5 d) hf hn d h1 h2).elim .inl id
 ·obtain ⟨he,hn⟩:=Y4 h;intro d h1 h2;exact(next (P:=fun d=>exc (a0+d)=true) he hn d h1 h2).elim .inr id
theorem G3 (hb:b2+131072*b3<=87112285931760246646623899502532662132736) (hw:w2=103079215104*b4+22517998136852480*b5) {r:Nat->Nat->Nat->Bool} (hr:Ok a0 c0 b1 b2 b3 b4 b5 r):Ok a0 c0 b1 b2 b3 b4 b5 (stp a0 c0 b1 b2 b3 b4 b5 w2 r):=by
 intro t q1 q2 h;unfold stp at h;rcases cnd h with ⟨hc,_⟩ | ⟨hc,h⟩
 ·have:=wO hc;intro d h1 h2;omega
 have ht:=Dy hc;simp only[uw] at h;rcases cnd h with ⟨_,h⟩ | ⟨_,h⟩
 ·exact hr _ _ _ h
 have hyv:∃v:Int,(q1:Int)*slo b1 b2 b3 b4 b5 t=((Nat.mod (Nat.mul q1 (vB b1 b2 b3 b4 b5 t)) 1461501637330902918203684832716283019655932542976:Nat):Int)+v*1461501637330902918203684832716283019655932542976:=by
  obtain ⟨u,hu⟩:=G9 (b1:=b1) (b4:=b4) (b5:=b5) hb (t:=t) (by omega);have hdm:=Nat.div_add_mod (q1*vB b1 b2 b3 b4 b5 t) 1461501637330902918203684832716283019655932542976;refine⟨(q1*vB b1 b2 b3 b4 b5 t / 1461501637330902918203684832716283019655932542976:Nat)+q1*u,?_⟩;show _=((q1*vB b1 b2 b3 b4 b5 t % 1461501637330902918203684832716283019655932542976:Nat):Int)+_;generalize q1*vB b1 b2 b3 b4 b5 t / 1461501637330902918203684832716283019655932542976=a at *;generalize q1*vB b1 b2 b3 b4 b5 t % 1461501637330902918203684832716283019655932542976=z at *;have:((q1*vB b1 b2 b3 b4 b5 t:Nat):Int)=((1461501637330902918203684832716283019655932542976*a+z:Nat):Int):=by rw[hdm]
  rw[Int.natCast_mul,Int.natCast_add,Int.natCast_mul] at this;have e:(((1461501637330902918203684832716283019655932542976:Nat)):Int)=1461501637330902918203684832716283019655932542976:=rfl;rw[hu,Int.mul_add,this,e];grind
 have hylt:Nat.mod (Nat.mul q1 (vB b1 b2 b3 b4 b5 t)) 1461501637330902918203684832716283019655932542976<1461501637330902918203684832716283019655932542976:=Nat.mod_lt _ (by decide);generalize Nat.mod (Nat.mul q1 (vB b1 b2 b3 b4 b5 t)) 1461501637330902918203684832716283019655932542976=y at *;generalize hx:Nat.mod (Nat.mul q1 (vA c0 b1 b2 b3 b4 b5 t)) 1461501637330902918203684832716283019655932542976=x at *;generalize hk:Nat.mul q1 (Nat.add b2 (Nat.mul (Nat.mul 3 b3) t))=k at *;generalize Nat.div 1461501637330902918203684832716283019655932542976 (Nat.add q1 q2)=e at *;have single:=fun h=>G1 (a0:=a0) (c0:=c0) (b1:=b1) (b4:=b4) (b5:=b5) hb hr (q1:=q1) (q2:=q2) ht h
 have go:∀ {n n':Nat} {yI:Int},n'<=n->n<=Nat.sub 131071 t->(∃v:Int,(q1:Int)*slo b1 b2 b3 b4 b5 t=yI+v*1461501637330902918203684832716283019655932542976)->∀s:Nat,Nat.succ (Nat.mul q1 (Nat.add 340282366920938463463374607431768211456 (Nat.mul (Nat.add (Nat.mul b3 n) w2) (Nat.mul n n))))=s->s<=x->(∀d:Nat,d<=n'->(s:Int)<=x+yI*d-k*(d*d)/\(x:Int)+yI*d-k*(d*d)<=1461501637330902918203684832716283019655932542976-s) ->
   r (Nat.add t (Nat.succ n')) q1 q2=true->∀d,t<=d->d<131072->Far c0 b1 b2 b3 b4 b5 d\/exc (a0+d)=true:=by
  intro n n' yI hn hnt hy s hs hsx hg hr' d h1 h2;have hnt:n<=131071-t:=hnt;rcases Nat.lt_or_ge (t+n') d with h3 | h3
  ·exact hr _ _ _ hr' d (by show t+(n'+1)<=d;omega) h2
  ·left;have hq:0<q1:=by
    rcases Nat.eq_zero_or_pos q1 with h0 | h0
    ·exfalso;subst h0;have:x=0:=by rw[<- hx];show 0*_ % _=0;rw[Nat.zero_mul]
     rw[this,<- hs] at hsx;exact absurd hsx (Nat.not_succ_le_zero _)
    ·exact h0
   have hs':s=q1*(340282366920938463463374607431768211456+(b3*n+w2)*(n*n))+1:=hs.symm;have hmono:q1*(340282366920938463463374607431768211456+(b3*n'+w2)*(n'*n'))+1<=s:=by
    rw[hs'];exact Nat.add_le_add_right (Nat.mul_le_mul_left _ (Nat.add_le_add_left (Nat.mul_le_mul (Nat.add_le_add_right (Nat.mul_le_mul_left _ hn) _) (Nat.mul_le_mul hn hn)) _)) _
   have:=zai (c0:=c0) (b1:=b1) hb hw (t:=t) (n:=n') (q:=q1) (x:=x) (k:=k) (y:=yI) (by omega) hq hx.symm hy hk.symm rfl (fun d hd=>by
    obtain ⟨g1,g2⟩:=hg d hd;have hm:((q1*(340282366920938463463374607431768211456+(b3*n'+w2)*(n'*n'))+1:Nat):Int)<=s:=Int.ofNat_le.2 hmono;generalize ((q1*(340282366920938463463374607431768211456+(b3*n'+w2)*(n'*n'))+1:Nat):Int)=s' at *;exact⟨Int.le_trans hm g1,by omega⟩) (d-t) (by omega)
   rwa[show t+(d-t)=d by omega] at this
 have mn1:∀a b,mn a b<=a:=fun a b=>by
  unfold mn;cases hab:Nat.ble a b
  ·exact Nat.le_of_lt (Dy hab)
  ·exact Nat.le_refl _
 have mn2:∀a b,mn a b<=b:=fun a b=>by
  unfold mn;cases hab:Nat.ble a b
  ·exact Nat.le_refl _
  ·exact wO hab
 rcases cnd h with ⟨_,h⟩ | ⟨_,h⟩
 ·generalize hn:mn (mn (Nat.div (Nat.add e y) (Nat.mul 2 k)) 1500) (Nat.sub 131071 t)=n at h;have hnt:n<=Nat.sub 131071 t:=by rw[<- hn];exact mn2 _ _
  generalize hs:Nat.succ (Nat.mul q1 (Nat.add 340282366920938463463374607431768211456 (Nat.mul (Nat.add (Nat.mul b3 n) w2) (Nat.mul n n))))=s at h;rcases cnd h with ⟨hc,h⟩ | ⟨_,h⟩
  rotate_left
  ·exact single h
  obtain ⟨c1,c2⟩:=Y4 hc;have c1:=wO c1;have c2:x+s<=1461501637330902918203684832716283019655932542976:=wO c2;generalize hn':mn n (cond (Nat.ble (Nat.mul y y) (Nat.mul (Nat.mul 4 k) (Nat.sub (Nat.sub 1461501637330902918203684832716283019655932542976 s) x))) (Nat.div y k) (Nat.div (Nat.sub (Nat.sub 1461501637330902918203684832716283019655932542976 s) x) y))=n' at h;have hnn:n'<=n:=by rw[<- hn'];exact mn1 _ _
  rcases cnd h with ⟨hc,h⟩ | ⟨_,h⟩
  rotate_left
  ·exact single h
  obtain ⟨d1,d2⟩:=Y4 hc;have d1:k*(n'*n')+s<=x+y*n':=wO d1;have d2:x+y*n'+s<=1461501637330902918203684832716283019655932542976\/y*y<=4*k*(1461501637330902918203684832716283019655932542976-s-x):=by
   rcases cnd d2 with ⟨h,_⟩ | ⟨_,h⟩
   ·exact .inl (wO h)
   ·exact .inr (wO h)
  refine go hnn hnt hyv s hs c1 (fun d hd=>?_) h;have d1':(k:Int)*((n':Int)*n')+s<=x+y*n':=by exact_mod_cast d1
  have d2':(x:Int)+y*n'+s<=1461501637330902918203684832716283019655932542976\/(y:Int)*y<=4*k*(1461501637330902918203684832716283019655932542976-s-x):=by
   rcases d2 with d2 | d2
   ·left;have:=Int.ofNat_le.2 d2;rw[Int.natCast_add,Int.natCast_add,Int.natCast_mul] at this;exact this
   ·right;have:=Int.ofNat_le.2 d2;rw[Int.natCast_mul,Int.natCast_mul,Int.natCast_mul,Int.natCast_sub (by omega),Int.natCast_sub (by omega)] at this;exact this
  exact⟨G8 (by omega) (by omega) (by omega) (by omega) d1',Ho (by omega) (by omega) (by omega) (by omega:(d:Int)<=n') (by omega) d2'⟩
 ·generalize hy':Nat.sub 1461501637330902918203684832716283019655932542976 y=y' at h;have hyv':∃v:Int,(q1:Int)*slo b1 b2 b3 b4 b5 t = -(y':Int)+v*1461501637330902918203684832716283019655932542976:=by
   obtain ⟨v,hv⟩:=hyv;refine⟨v+1,?_⟩;have:y'=1461501637330902918203684832716283019655932542976-y:=hy'.symm;rw[hv,this,Int.natCast_sub (by omega)];have e:(((1461501637330902918203684832716283019655932542976:Nat)):Int)=1461501637330902918203684832716283019655932542976:=rfl;rw[e];grind
  generalize hn:mn (mn (Nat.div (Nat.sub e y') (Nat.mul 2 k)) 1500) (Nat.sub 131071 t)=n at h;have hnt:n<=Nat.sub 131071 t:=by rw[<- hn];exact mn2 _ _
  generalize hs:Nat.succ (Nat.mul q1 (Nat.add 340282366920938463463374607431768211456 (Nat.mul (Nat.add (Nat.mul b3 n) w2) (Nat.mul n n))))=s at h;rcases cnd h with ⟨hc,h⟩ | ⟨_,h⟩
  rotate_left
  ·exact single h
  obtain ⟨c1,c2⟩:=Y4 hc;have c1:=wO c1;have c2:x+s<=1461501637330902918203684832716283019655932542976:=wO c2;generalize hn':mn n _=n' at h;have hnn:n'<=n:=by rw[<- hn'];exact mn1 _ _
  rcases cnd h with ⟨hc,h⟩ | ⟨_,h⟩
  rotate_left
  ·exact single h
  have d1:n'*(y'+k*n')+s<=x:=wO hc;refine go hnn hnt hyv' s hs c1 (fun d hd=>?_) h;have m:d*(y'+k*d)<=n'*(y'+k*n'):=Nat.mul_le_mul hd (Nat.add_le_add_left (Nat.mul_le_mul_left _ hd) _);have e1:(x:Int) + -(y':Int)*d-k*(d*d)=x-((d*(y'+k*d):Nat):Int):=by push_cast;grind
  rw[e1];generalize d*(y'+k*d)=a at *;generalize n'*(y'+k*n')=b at *;constructor<;>omega
theorem Jm (hb:b2+131072*b3<=87112285931760246646623899502532662132736) (hw:w2=103079215104*b4+22517998136852480*b5):∀f:Nat,Ok a0 c0 b1 b2 b3 b4 b5 (GX a0 c0 b1 b2 b3 b4 b5 w2 f)
 |0=>fun t _ _ h d h1 h2=>by have:=wO h;omega
 |f+1=>G3 hb hw (Jm hb hw f)
theorem Lm {α:Type} (fr:Nat) (k:Nat->Nat->α) {r:Nat->Nat->Nat->Nat->α} (hr:∀lp lq hp hq:Nat,∃q1 q2,r lp lq hp hq=k q1 q2) (lp lq hp hq:Nat):∃q1 q2,O7 fr k r lp lq hp hq=k q1 q2:=by
 unfold O7;rw[uw,uw];generalize Nat.ble (Nat.add lq hq) 300=c;generalize Nat.ble (Nat.mul (Nat.add lp hp) 1461501637330902918203684832716283019655932542976) (Nat.mul fr (Nat.add lq hq))=c';cases c
 ·exact⟨hq,lq,rfl⟩
 ·cases c'
  ·exact hr _ _ _ _
  ·exact hr _ _ _ _
theorem PJ {α:Type} (fr:Nat) (k:Nat->Nat->α):∀(f lp lq hp hq:Nat),∃q1 q2,HP fr k f lp lq hp hq=k q1 q2
 |0,_,lq,_,hq=>⟨hq,lq,rfl⟩
 |f+1,lp,lq,hp,hq=>Lm fr k (PJ fr k f) lp lq hp hq
end
end Sun
end Go.Proofs.YtkojpnkknehhmaaGreatDoor
set_option maxRecDepth 100000
namespace Go.Proofs.YtkojpnkknehhmaaGreatDoor
open Go.RowKit
namespace Sun
def fP:List Nat:=[0,12795985089016160849402299382636901671180655675926382079628618558973806678447359080026311372254323219511604352234618827657528267311884129774085495792181121121628723522696288792306778239667958296500020485415114902237396075818534638998433027346595432220444,0,0,0,9894684470781519843565547116824170176478134268790560677108280068339658276405400213484021052579190561013818234479958997612995393094620486023375618483417187242214123642997854518641806160710973852060995751735099313700704192,0,0,0,303619480738671010684374493753632480393302497770772248335495126048476455855676991664334578265777655337414651452267035381604670899660379846044418190542415645673200336943811488691129757599,0,0,0,1641805930320412122415275166528881578531124847652991873432511846870685957084459994267762250823492275900748417460683972807489474162515668114232972188583,0,0,0,2667123289090495706241258870844496782521472200521910287879960294871831247671939834427492346257122823073803302129438,0,0,0,1722967817488675878454571814298546446955087497591429093592684156165068730119082,0,0,0,526604867053905329526263286977572164753361,0,0]
def fM:List Nat:=[0,0,0,649646660240883278979249268060156688143792370736974577697504659101146274043180000937054268247662221950859563412628276337460374199862796288216868665182213171532321276854742874963313852390412122157828341890298839187343443302318424892400839,0,0,0,71764125073644782110255348682262478275454997701514858005784410836814462852115368578093004425328648321619751138689385693133508574643655308292454138900629092629488051897139950221348509475892347799412283757,0,0,0,840798025632674847191827584236225718173359242898078602721938845218927772042071435346794681686644200474260744560138307931652476610517662588135661224550448727888648145235,0,0,0,2381536601355812512323818214292270512047466110363635200550075137407370001043406933593027820807169478134598503858769153458014093224613,0,0,0,2375591270689434171085550075176691715374010464024298273865663579582006131784439957242956669635176,0,0,0,1037245080906990328534429347880415280111401362148588205793662,0,0,0,228508569585588821538163]
noncomputable def macroB (a0:Nat):Bool :=
 t6 a0 fP fun p0 p1 p2 p3 p4 p5=>t6 a0 fM fun m0 m1 m2 m3 m4 m5 =>
  frc (Nat.div (Nat.sub p0 m0) 5016456510113118655434598811035278955030765345404790744303017523831112055108147451509157692220295382716162651878526895249385292291816524375083746691371804094271873160484737966720260389217684476157468082176) fun c0=>frc (Nat.div (Nat.sub p1 m1) 5016456510113118655434598811035278955030765345404790744303017523831112055108147451509157692220295382716162651878526895249385292291816524375083746691371804094271873160484737966720260389217684476157468082176) fun b1=>frc (Nat.div (Nat.sub m2 p2) 5016456510113118655434598811035278955030765345404790744303017523831112055108147451509157692220295382716162651878526895249385292291816524375083746691371804094271873160484737966720260389217684476157468082176) fun b2=>frc (Nat.div (Nat.sub m3 p3) 5016456510113118655434598811035278955030765345404790744303017523831112055108147451509157692220295382716162651878526895249385292291816524375083746691371804094271873160484737966720260389217684476157468082176) fun b3=>frc (Nat.div (Nat.sub p4 m4) 5016456510113118655434598811035278955030765345404790744303017523831112055108147451509157692220295382716162651878526895249385292291816524375083746691371804094271873160484737966720260389217684476157468082176) fun b4=>frc (Nat.div (Nat.sub p5 m5) 5016456510113118655434598811035278955030765345404790744303017523831112055108147451509157692220295382716162651878526895249385292291816524375083746691371804094271873160484737966720260389217684476157468082176) fun b5 =>
  frc (Nat.add (Nat.mul 103079215104 b4) (Nat.mul 22517998136852480 b5)) fun w2 =>
  cond (cond (cond (Nat.ble m0 p0) (cond (Nat.ble m1 p1) (cond (Nat.ble p2 m2) (cond (Nat.ble p3 m3) (cond (Nat.ble m4 p4) (Nat.ble m5 p5) false) false) false) false) false) (cond (Nat.ble (Nat.add b2 (Nat.mul 131072 b3)) 87112285931760246646623899502532662132736) (frc (mn 131072 (Nat.sub 90000000 a0)) fun w=>Nat.ble (Nat.add (Nat.add (Nat.mul b2 (Nat.sub (Nat.mul 2 w) 1)) (Nat.mul (Nat.mul 3 b3) (Nat.mul w w))) 340282366920938463463374607431768211456) b1) false) false)
  (HP (Nat.mod b1 1461501637330902918203684832716283019655932542976) (fun q1 q2=>GX a0 c0 b1 b2 b3 b4 b5 w2 6000 0 q1 q2) 2000 0 1 1 1) false
noncomputable def YP (i n:Nat):Bool:=Nat.rec (motive:=fun _=>Nat->Bool) (fun _=>true) (fun _ r i=>cond (macroB (Nat.mul 131072 i)) (frc (Nat.succ i) r) false) n i
def F (a:Nat):Int:=(ev a fP:Int)-ev a fM
theorem dv {S p m:Nat} (hS:0<S) (h:m<=p):∃r:Int,(p:Int)-m=S*((p-m) / S:Nat)+r/\0<=r/\r<=S:=by
 refine⟨((p-m) % S:Nat),?_,by omega,?_⟩
 ·have:=Nat.div_add_mod (p-m) S;rw[<- Int.ofNat_sub h,<- Int.natCast_mul,<- Int.natCast_add,this]
 ·have:=Nat.mod_lt (p-m) hS;omega
theorem pb {r T S U:Int} (h0:0<=r) (h1:r<=S) (h2:0<=T) (h3:T<=U):0<=r*T/\r*T<=S*U :=
 ⟨Int.mul_nonneg h0 h2,Int.mul_le_mul h1 h3 h2 (by omega)⟩
theorem D7 {p0 p1 p2 p3 p4 p5 m0 m1 m2 m3 m4 m5 t rP rM S c0 b1 b2 b3 b4 b5:Nat} (hS:0<S) (ht:t<=131072) (h0:m0<=p0) (h1:m1<=p1) (h2:p2<=m2) (h3:p3<=m3) (h4:m4<=p4) (h5:m5<=p5)
  (e0:c0=(p0-m0) / S) (e1:b1=(p1-m1) / S) (e2:b2=(m2-p2) / S) (e3:b3=(m3-p3) / S) (e4:b4=(p4-m4) / S) (e5:b5=(p5-m5) / S):∃E:Int,
  ((p0+p1*t+p2*t ^ 2+p3*t ^ 3+p4*t ^ 4+p5*t ^ 5+t ^ 6*rP:Nat):Int)-((m0+m1*t+m2*t ^ 2+m3*t ^ 3+m4*t ^ 4+m5*t ^ 5+t ^ 6*rM:Nat):Int)
  =S*pol c0 b1 b2 b3 b4 b5 t+E+((t ^ 6*rP:Nat):Int)-((t ^ 6*rM:Nat):Int) /\ -(S*2251816993685504:Int)<=E/\E<=S*38685922098849068449792005:=by
 obtain ⟨r0,d0,l0,g0⟩:=dv hS h0;obtain ⟨r1,d1,l1,g1⟩:=dv hS h1;obtain ⟨r2,d2,l2,g2⟩:=dv hS h2;obtain ⟨r3,d3,l3,g3⟩:=dv hS h3;obtain ⟨r4,d4,l4,g4⟩:=dv hS h4;obtain ⟨r5,d5,l5,g5⟩:=dv hS h5;rw[<- e0] at d0;rw[<- e1] at d1;rw[<- e2] at d2;rw[<- e3] at d3;rw[<- e4] at d4;rw[<- e5] at d5;refine⟨r0+r1*t-r2*t ^ 2-r3*t ^ 3+r4*t ^ 4+r5*t ^ 5,?_,?_⟩
 ·clear e0 e1 e2 e3 e4 e5 l0 l1 l2 l3 l4 l5 g0 g1 g2 g3 g4 g5 h0 h1 h2 h3 h4 h5 ht hS;unfold pol;push_cast
  grind
 ·have pw:∀j:Nat,0<=(t:Int) ^ j/\(t:Int) ^ j<=((131072 ^ j:Nat):Int):=fun j=>by
   rw[<- Int.natCast_pow];exact⟨Int.natCast_nonneg _,Int.ofNat_le.2 (Nat.pow_le_pow_left ht j)⟩
  have k1:=pb l1 g1 (show (0:Int)<=t by omega) (show (t:Int)<=131072 by omega);have k2:=pb l2 g2 (pw 2).1 (pw 2).2;have k3:=pb l3 g3 (pw 3).1 (pw 3).2;have k4:=pb l4 g4 (pw 4).1 (pw 4).2;have k5:=pb l5 g5 (pw 5).1 (pw 5).2;have n2:((131072 ^ 2:Nat):Int)=17179869184:=rfl;have n3:((131072 ^ 3:Nat):Int)=2251799813685248:=rfl;have n4:((131072 ^ 4:Nat):Int)=295147905179352825856:=rfl;have n5:((131072 ^ 5:Nat):Int)=38685626227668133590597632:=rfl;rw[n2] at k2;rw[n3] at k3;rw[n4] at k4;rw[n5] at k5;generalize r1*(t:Int)=z1 at *;generalize r2*(t:Int) ^ 2=z2 at *;generalize r3*(t:Int) ^ 3=z3 at *;generalize r4*(t:Int) ^ 4=z4 at *;generalize r5*(t:Int) ^ 5=z5 at *;generalize (S:Int)=s at *;clear d0 d1 d2 d3 d4 d5;constructor<;>omega
theorem IY {a t:Nat} (ha:a<=89915392) (ht:t<=131072):Ww a t fP<=47468259635293671829745128352414903869610377039446936107623192711848542701306525693948818208745179493330656822636785958013527593206124906880006460291292129653685951664720652141015354256563823779143284564677230592:=by
 have h:t7 89915392 131072 fP (fun _ _ _ _ _ _ y=>Nat.ble y 47468259635293671829745128352414903869610377039446936107623192711848542701306525693948818208745179493330656822636785958013527593206124906880006460291292129653685951664720652141015354256563823779143284564677230592)=true:=by decide +kernel
 rw[JJ] at h;exact Nat.le_trans (UQ ha ht fP) (wO h)
theorem IX {a t:Nat} (ha:a<=89915392) (ht:t<=131072):Ww a t fM<=47468259635293671829745128352414903869610377039446936107623192711848542701306525693948818208745179493330656822636785958013527593206124906880006460291292129653685951664720652141015354256563823779143284564677230592:=by
 have h:t7 89915392 131072 fM (fun _ _ _ _ _ _ y=>Nat.ble y 47468259635293671829745128352414903869610377039446936107623192711848542701306525693948818208745179493330656822636785958013527593206124906880006460291292129653685951664720652141015354256563823779143284564677230592)=true:=by decide +kernel
 rw[JJ] at h;exact Nat.le_trans (UQ ha ht fM) (wO h)
def FarF (a:Nat):Prop:=∀N:Int,853505847408621347082221029212320998034529065256436244530720999905796766440656905154743321711558949215095028555959454777073766611727278730286509574698346245900180170177793863483274020596712195165307522065393485053656415748796987045268976304128<F a-N*7331559403129590068331208687020758653624765228075687047537011123791632385370343464792392772051104864109916034360063928339045596353810784435313926666640532382851295822842678298180301122938618566718730242107326783353838221723324821405531849499257419595776\/F a-N*7331559403129590068331208687020758653624765228075687047537011123791632385370343464792392772051104864109916034360063928339045596353810784435313926666640532382851295822842678298180301122938618566718730242107326783353838221723324821405531849499257419595776 < -853505847408621347082221029212320998034529065256436244530720999905796766440656905154743321711558949215095028555959454777073766611727278730286509574698346245900180170177793863483274020596712195165307522065393485053656415748796987045268976304128
theorem zcw {a0 c0 b1 b2 b3 b4 b5 t:Nat} {E rP rM:Int} (he:F (a0+t)=5016456510113118655434598811035278955030765345404790744303017523831112055108147451509157692220295382716162651878526895249385292291816524375083746691371804094271873160484737966720260389217684476157468082176*pol c0 b1 b2 b3 b4 b5 t+E+rP-rM) (h1:-(5016456510113118655434598811035278955030765345404790744303017523831112055108147451509157692220295382716162651878526895249385292291816524375083746691371804094271873160484737966720260389217684476157468082176*2251816993685504:Int)<=E) (h2:E<=5016456510113118655434598811035278955030765345404790744303017523831112055108147451509157692220295382716162651878526895249385292291816524375083746691371804094271873160484737966720260389217684476157468082176*38685922098849068449792005)
  (h3:0<=rP) (h4:rP<=240692671273877827031330798793118530010866907310719644729590850583775005718753237248263516568404644766234356672723199729760723277832295263726143934140168552649253605362006716677162954832586952639084070408938700217118658539244482455556344250368) (h5:0<=rM) (h6:rM<=240692671273877827031330798793118530010866907310719644729590850583775005718753237248263516568404644766234356672723199729760723277832295263726143934140168552649253605362006716677162954832586952639084070408938700217118658539244482455556344250368) (hf:Far c0 b1 b2 b3 b4 b5 t):FarF (a0+t):=by
 intro N;have:=hf N;rw[he];generalize pol c0 b1 b2 b3 b4 b5 t=P at *;rcases this with h | h
 ·left;omega
 ·right;omega
theorem TU {a0:Nat} (ha:a0<=89915392) (h:macroB a0=true):∃c0 b1 b2 b3 b4 b5:Nat,
  (∀t,t<=131072->∃E rP rM:Int,F (a0+t)=5016456510113118655434598811035278955030765345404790744303017523831112055108147451509157692220295382716162651878526895249385292291816524375083746691371804094271873160484737966720260389217684476157468082176*pol c0 b1 b2 b3 b4 b5 t+E+rP-rM /\ -(5016456510113118655434598811035278955030765345404790744303017523831112055108147451509157692220295382716162651878526895249385292291816524375083746691371804094271873160484737966720260389217684476157468082176*2251816993685504:Int)<=E/\E<=5016456510113118655434598811035278955030765345404790744303017523831112055108147451509157692220295382716162651878526895249385292291816524375083746691371804094271873160484737966720260389217684476157468082176*38685922098849068449792005/\0<=rP/\rP<=240692671273877827031330798793118530010866907310719644729590850583775005718753237248263516568404644766234356672723199729760723277832295263726143934140168552649253605362006716677162954832586952639084070408938700217118658539244482455556344250368/\0<=rM/\rM<=240692671273877827031330798793118530010866907310719644729590850583775005718753237248263516568404644766234356672723199729760723277832295263726143934140168552649253605362006716677162954832586952639084070408938700217118658539244482455556344250368) /\
  (∀t,t<131072->Far c0 b1 b2 b3 b4 b5 t\/exc (a0+t)=true) /\
  b2*(2*mn 131072 (90000000-a0)-1)+3*b3*(mn 131072 (90000000-a0)*mn 131072 (90000000-a0))+340282366920938463463374607431768211456<=b1:=by
 unfold macroB at h;simp only[HR,uw] at h;generalize hc0:Nat.div (Nat.sub (tay a0 fP 0) (tay a0 fM 0)) 5016456510113118655434598811035278955030765345404790744303017523831112055108147451509157692220295382716162651878526895249385292291816524375083746691371804094271873160484737966720260389217684476157468082176=c0 at h;generalize hb1:Nat.div (Nat.sub (tay a0 fP 1) (tay a0 fM 1)) 5016456510113118655434598811035278955030765345404790744303017523831112055108147451509157692220295382716162651878526895249385292291816524375083746691371804094271873160484737966720260389217684476157468082176=b1 at h;generalize hb2:Nat.div (Nat.sub (tay a0 fM 2) (tay a0 fP 2)) 5016456510113118655434598811035278955030765345404790744303017523831112055108147451509157692220295382716162651878526895249385292291816524375083746691371804094271873160484737966720260389217684476157468082176=b2 at h;generalize hb3:Nat.div (Nat.sub (tay a0 fM 3) (tay a0 fP 3)) 5016456510113118655434598811035278955030765345404790744303017523831112055108147451509157692220295382716162651878526895249385292291816524375083746691371804094271873160484737966720260389217684476157468082176=b3 at h;generalize hb4:Nat.div (Nat.sub (tay a0 fP 4) (tay a0 fM 4)) 5016456510113118655434598811035278955030765345404790744303017523831112055108147451509157692220295382716162651878526895249385292291816524375083746691371804094271873160484737966720260389217684476157468082176=b4 at h;generalize hb5:Nat.div (Nat.sub (tay a0 fP 5) (tay a0 fM 5)) 5016456510113118655434598811035278955030765345404790744303017523831112055108147451509157692220295382716162651878526895249385292291816524375083746691371804094271873160484737966720260389217684476157468082176=b5 at h;obtain ⟨hc,h⟩:=Y4 h;obtain ⟨hc,hb⟩:=Y4 hc;obtain ⟨hb,hm⟩:=Y4 hb;obtain ⟨k0,hc⟩:=Y4 hc;obtain ⟨k1,hc⟩:=Y4 hc;obtain ⟨k2,hc⟩:=Y4 hc;obtain ⟨k3,hc⟩:=Y4 hc;obtain ⟨k4,k5⟩:=Y4 hc;obtain ⟨q1,q2,hq⟩:=PJ (Nat.mod b1 1461501637330902918203684832716283019655932542976) (fun q1 q2=>GX a0 c0 b1 b2 b3 b4 b5 (Nat.add (Nat.mul 103079215104 b4) (Nat.mul 22517998136852480 b5)) 6000 0 q1 q2) 2000 0 1 1 1;rw[hq] at h;refine⟨c0,b1,b2,b3,b4,b5,fun t ht=>?_,fun t ht=>Jm (a0:=a0) (c0:=c0) (b1:=b1) (wO hb) rfl 6000 0 q1 q2 h t (Nat.zero_le _) ht,wO hm⟩;obtain ⟨E,he,h1,h2⟩:=D7 (t:=t) (rP:=Ww a0 t fP) (rM:=Ww a0 t fM) (S:=5016456510113118655434598811035278955030765345404790744303017523831112055108147451509157692220295382716162651878526895249385292291816524375083746691371804094271873160484737966720260389217684476157468082176) (by decide) ht (wO k0) (wO k1) (wO k2) (wO k3) (wO k4) (wO k5) hc0.symm hb1.symm hb2.symm hb3.symm hb4.symm hb5.symm;rw[<- Oo,<- Oo] at he;refine⟨E,_,_,he,h1,h2,Int.natCast_nonneg _,?_,Int.natCast_nonneg _,?_⟩
 ·exact Int.ofNat_le.2 (Nat.mul_le_mul (Nat.pow_le_pow_left ht 6) (IY ha ht))
 ·exact Int.ofNat_le.2 (Nat.mul_le_mul (Nat.pow_le_pow_left ht 6) (IX ha ht))
theorem KU {a0:Nat} (ha:a0<=89915392) (h:macroB a0=true) (t:Nat) (ht:t<131072):FarF (a0+t)\/exc (a0+t)=true:=by
 obtain ⟨c0,b1,b2,b3,b4,b5,hp,hf,-⟩:=TU ha h;rcases hf t ht with hr | hr
 ·left;obtain ⟨E,rP,rM,he,h1,h2,h3,h4,h5,h6⟩:=hp t (Nat.le_of_lt ht);exact zcw he h1 h2 h3 h4 h5 h6 hr
 ·exact .inr hr
theorem GU {c0 b1 b2 b3 b4 b5 t w:Nat} (ht:t+1<=w) (h:b2*(2*w-1)+3*b3*(w*w)+340282366920938463463374607431768211456<=b1):pol c0 b1 b2 b3 b4 b5 t+340282366920938463463374607431768211456<=pol c0 b1 b2 b3 b4 b5 (t+1:Nat):=by
 have e:pol c0 b1 b2 b3 b4 b5 (t+1:Nat)=pol c0 b1 b2 b3 b4 b5 t+b1-((b2*(2*t+1):Nat):Int)-((b3*(3*(t*t)+3*t+1):Nat):Int)+((b4*(4*t ^ 3+6*t ^ 2+4*t+1)+b5*(5*t ^ 4+10*t ^ 3+10*t ^ 2+5*t+1):Nat):Int):=by
  clear h ht;unfold pol;push_cast
  grind
 have g1:b2*(2*t+1)<=b2*(2*w-1):=Nat.mul_le_mul_left _ (by omega);have g2:b3*(3*(t*t)+3*t+1)<=3*b3*(w*w):=by
  have:3*(t*t)+3*t+1<=3*(w*w):=by
   have:=Nat.mul_le_mul ht ht;have e:(t+1)*(t+1)=t*t+2*t+1:=by grind
   omega
  have:=Nat.mul_le_mul_left b3 this;have e:b3*(3*(w*w))=3*b3*(w*w):=by grind
  omega
 rw[e];generalize b4*(4*t ^ 3+6*t ^ 2+4*t+1)+b5*(5*t ^ 4+10*t ^ 3+10*t ^ 2+5*t+1)=z;omega
theorem KV {a0:Nat} (ha:a0<=89915392) (h:macroB a0=true) (t:Nat) (ht:t<131072) (h9:a0+t<90000000):F (a0+t)<F (a0+(t+1)):=by
 obtain ⟨c0,b1,b2,b3,b4,b5,hp,-,hm⟩:=TU ha h;have hw:t+1<=mn 131072 (90000000-a0):=by
  unfold mn;cases Nat.ble 131072 (90000000-a0)
  ·show t+1<=90000000-a0;omega
  ·exact ht
 have hu:=GU (c0:=c0) (b4:=b4) (b5:=b5) hw hm;obtain ⟨E,rP,rM,he,h1,h2,h3,h4,h5,h6⟩:=hp t (Nat.le_of_lt ht);obtain ⟨E',rP',rM',he',h1',h2',h3',h4',h5',h6'⟩:=hp (t+1) ht;rw[he,he'];generalize pol c0 b1 b2 b3 b4 b5 (t+1:Nat)=P' at *;generalize pol c0 b1 b2 b3 b4 b5 t=P at *;clear hm hp he he' hw;omega
theorem all_ok:∀(n i:Nat),YP i n=true->∀j,i<=j->j<i+n->macroB (131072*j)=true
 |0,i,_,j,h1,h2=>by omega
 |n+1,i,h,j,h1,h2=>by
  have h:cond (macroB (Nat.mul 131072 i)) (frc (Nat.succ i) (YP · n)) false=true:=h;rw[uw] at h;obtain ⟨ha,hb⟩:=Y4 h;rcases Nat.eq_or_lt_of_le h1 with h3 | h3
  ·subst h3;exact ha
  ·exact all_ok n (i+1) hb j h3 (by omega)
theorem of_all (H:∀j,j<687->macroB (131072*j)=true) {a:Nat} (h0:0<a) (h1:a<90000000) (h2:a≠30000000):FarF a:=by
 have hj:a / 131072<687:=by omega
 have:=KU (a0:=131072*(a / 131072)) (by omega) (H _ hj) (a % 131072) (Nat.mod_lt _ (by decide));rw[Nat.div_add_mod] at this;rcases this with h | h
 ·exact h
 ·exfalso;unfold exc at h;rcases cnd h with ⟨h,_⟩ | ⟨_,h⟩
  ·exact h2 (Nat.eq_of_beq_eq_true h)
  rcases cnd h with ⟨h,_⟩ | ⟨_,h⟩
  ·have:=Nat.eq_of_beq_eq_true h;omega
  ·have:=wO h;omega
theorem up_all (H:∀j,j<687->macroB (131072*j)=true) {a:Nat} (h1:a<90000000):F a<F (a+1):=by
 have hj:a / 131072<687:=by omega
 have:=KV (a0:=131072*(a / 131072)) (by omega) (H _ hj) (a % 131072) (Nat.mod_lt _ (by decide)) (by omega);rwa[<- Nat.add_assoc,Nat.div_add_mod] at this
theorem HW (H:∀j,j<687->macroB (131072*j)=true) {a:Nat}:∀d:Nat,a+d<=90000000->F a<=F (a+d)
 |0,_=>Int.le_refl _
 |d+1,h=>Int.le_trans (HW H d (by omega)) (Int.le_of_lt (up_all H (a:=a+d) (by omega)))
end Sun
end Go.Proofs.YtkojpnkknehhmaaGreatDoor
