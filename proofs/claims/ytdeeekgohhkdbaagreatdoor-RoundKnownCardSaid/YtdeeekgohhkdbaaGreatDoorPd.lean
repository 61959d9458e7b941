/- Plain: what is so of a programme that is valid; the benefit of an inspection, without bounds. -/
import Derived.Test.YtdeeekgohhkdbaaGreatDoorSk
namespace Go.Proofs.YtdeeekgohhkdbaaGreatDoor
open Go.IntKind (wrap i64 u64)
structure QU (p:TRoProgramme):Prop where
 al:p.Assets.length<=6
 bl:p.Budgets.length<=3
 first:0<=p.First/\p.First<=40000
 days:1<=p.Days/\p.Days<=4000
 bud:∀n∈p.Budgets,0<=n/\n<=10000000
 ass:∀x∈p.Assets,(0<=x.Cost/\x.Cost<=1000000)/\(0<=x.Rate/\x.Rate<=1000)/\(0<=x.Harm/\x.Harm<=10000000)/\(0<=x.Last/\x.Last<=p.First)
theorem HE {p:TRoProgramme} (h:(vw p).2=0):QU p:=by
 unfold vw at h;by_cases h0:p.Assets.length>6
 ·rw[if_pos h0] at h;exact absurd h (by simp)
 rw[if_neg h0] at h;by_cases h1:p.Budgets.length>3
 ·rw[if_pos h1] at h;exact absurd h (by simp)
 rw[if_neg h1] at h;by_cases h2:qa p.First 0 40000=true
 ·rw[if_pos h2] at h;exact absurd h (by simp)
 rw[if_neg h2] at h;by_cases h3:qa p.Days 1 4000=true
 ·rw[if_pos h3] at h;exact absurd h (by simp)
 rw[if_neg h3] at h;by_cases h4:p.Budgets.any YA=true
 ·rw[if_pos h4] at h;exact absurd h (by simp)
 rw[if_neg h4] at h;have h4:p.Budgets.any YA=false:=by simpa using h4
 refine⟨by omega,by omega,P1.1 (by simpa using h2),P1.1 (by simpa using h3),fun n hn=>?_,fun x hx=>?_⟩
 ·have h5:YA n=false:=by simpa using List.any_eq_false.1 h4 n hn
  exact P1.1 h5
 ·obtain ⟨_,hi⟩:=YK h x hx;have hi:S4 p x=0:=hi;unfold S4 at hi;by_cases g0:qa x.Cost 0 1000000=true
  ·rw[if_pos g0] at hi;exact absurd hi (by simp)
  rw[if_neg g0] at hi;by_cases g1:qa x.Rate 0 1000=true
  ·rw[if_pos g1] at hi;exact absurd hi (by simp)
  rw[if_neg g1] at hi;by_cases g2:qa x.Harm 0 10000000=true
  ·rw[if_pos g2] at hi;exact absurd hi (by simp)
  rw[if_neg g2] at hi;by_cases g3:qa x.Last 0 p.First=true
  ·rw[if_pos g3] at hi;exact absurd hi (by simp)
  exact⟨P1.1 (by simpa using g0),P1.1 (by simpa using g1),P1.1 (by simpa using g2),P1.1 (by simpa using g3)⟩
theorem U7 {a b A B:Int} (h0:0<=a) (h1:a<=A) (h2:0<=b) (h3:b<=B):0<=a*b/\a*b<=A*B:=⟨Int.mul_nonneg h0 h2,Int.mul_le_mul h1 h3 h2 (by omega)⟩
def GB (L a R:Int):Int:=(L*a*R).tdiv 1000000000
def kU (p:TRoProgramme) (k:Int):Int:=((p.Budgets.length:Int)-k)*p.Days
def jb (p:TRoProgramme) (x:TRoAsset) (k:Int):Int:=p.First+k*p.Days-x.Last
theorem GD {p:TRoProgramme} (hv:QU p) {x:TRoAsset} (hx:x∈p.Assets) {k:Int} (h0:0<=k) (h1:k<p.Budgets.length) :
  YF p x k=GB (kU p k) (jb p x k) (x.Rate*x.Harm)/\(0<=kU p k/\kU p k<=12000)/\(0<=jb p x k/\jb p x k<=48000)/\(0<=x.Rate*x.Harm/\x.Rate*x.Harm<=10000000000) /\
   (0<=kU p k*jb p x k/\kU p k*jb p x k<=576000000)/\(0<=kU p k*jb p x k*(x.Rate*x.Harm)/\kU p k*jb p x k*(x.Rate*x.Harm)<=5760000000000000000)/\(0<=k*p.Days/\k*p.Days<=8000):=by
 have hbl:=hv.bl;have hd:=hv.days;have hf:=hv.first;obtain ⟨_,hr,hh,hl⟩:=hv.ass x hx;have b1:=U7 (a:=(p.Budgets.length:Int)-k) (b:=p.Days) (A:=3) (B:=4000) (by omega) (by omega) (by omega) (by omega);have b2:=U7 (a:=k) (b:=p.Days) (A:=2) (B:=4000) (by omega) (by omega) (by omega) (by omega);have b3:=U7 hr.1 hr.2 hh.1 hh.2;have b4:0<=jb p x k/\jb p x k<=48000:=by unfold jb;generalize k*p.Days=z at *;omega
 have b5:=U7 (a:=kU p k) (b:=jb p x k) (A:=12000) (B:=48000) b1.1 b1.2 b4.1 b4.2;have b6:=U7 (a:=kU p k*jb p x k) (b:=x.Rate*x.Harm) (A:=576000000) (B:=10000000000) b5.1 b5.2 b3.1 b3.2;refine⟨?_,b1,b4,b3,b5,b6,b2⟩;unfold YF GA GB;have w1:IntKind.i64.wrap ((p.Budgets.length:Int)-k)=(p.Budgets.length:Int)-k:=zw6 (by omega);rw[w1];have w2:IntKind.i64.wrap (((p.Budgets.length:Int)-k)*p.Days)=kU p k:=by
  show _=((p.Budgets.length:Int)-k)*p.Days;generalize ((p.Budgets.length:Int)-k)*p.Days=z at b1;exact zw6 (by omega)
 have w3:IntKind.i64.wrap (k*p.Days)=k*p.Days:=by generalize k*p.Days=z at b2;exact zw6 (by omega)
 have w4:IntKind.i64.wrap (p.First+k*p.Days)=p.First+k*p.Days:=by generalize k*p.Days=z at b2;exact zw6 (by omega)
 have w5:IntKind.i64.wrap (p.First+k*p.Days-x.Last)=jb p x k:=by show _=p.First+k*p.Days-x.Last;generalize k*p.Days=z at b2;exact zw6 (by omega)
 have w6:IntKind.i64.wrap (x.Rate*x.Harm)=x.Rate*x.Harm:=by generalize x.Rate*x.Harm=z at b3;exact zw6 (by omega)
 rw[w2,w3,w4,w5,w6];have w7:IntKind.i64.wrap (kU p k*jb p x k)=kU p k*jb p x k:=by generalize kU p k*jb p x k=z at b5;exact zw6 (by omega)
 rw[w7];have w8:IntKind.i64.wrap (kU p k*jb p x k*(x.Rate*x.Harm))=kU p k*jb p x k*(x.Rate*x.Harm):=by generalize kU p k*jb p x k*(x.Rate*x.Harm)=z at b6;exact zw6 (by omega)
 rw[w8];generalize kU p k*jb p x k*(x.Rate*x.Harm)=z at b6;have:z.tdiv 1000000000=z / 1000000000:=Int.tdiv_eq_ediv_of_nonneg b6.1;rw[this];exact zw6 (by omega)
end Go.Proofs.YtdeeekgohhkdbaaGreatDoor
namespace Go.Proofs.YtdeeekgohhkdbaaGreatDoor
open Go.IntKind (wrap i64 u64)
open Go.RowKit
end Go.Proofs.YtdeeekgohhkdbaaGreatDoor
