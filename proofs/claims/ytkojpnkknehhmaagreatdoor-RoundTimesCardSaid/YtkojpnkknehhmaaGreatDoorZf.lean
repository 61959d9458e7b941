/- Plain: the program's sine lies near the series. Plain: the polynomial lies near the series. Plain: the document's sine lies near the series. Plain: two ways of searching; the rounded sines grow. -/
import Derived.Test.YtkojpnkknehhmaaGreatDoorZb
set_option maxRecDepth 100000
namespace Go.Proofs.YtkojpnkknehhmaaGreatDoor
open Go.RowKit
namespace SunQ
theorem Hk {Z w p:Nat} (e:p=Z*18446744073709551616+w) (hw:w<=340282366920938463426481119284349108225) (h:p<28948022309329048855892746252171976963317496166410141009864396001978282409984) :
  Z / 4611686018427387904 % 340282366920938463463374607431768211456*85070591730234615865843651857942052864<=p/\p<=(Z / 4611686018427387904 % 340282366920938463463374607431768211456+5)*85070591730234615865843651857942052864:=by
 subst e;have hZ:Z / 4611686018427387904<340282366920938463463374607431768211456:=by
  apply Nat.div_lt_of_lt_mul;omega
 rw[Nat.mod_eq_of_lt hZ];clear hZ h;have h1:=Nat.div_add_mod Z 4611686018427387904;have h2:=Nat.mod_lt Z (show 0<4611686018427387904 by decide);generalize Z / 4611686018427387904=d at *;generalize Z % 4611686018427387904=r at *;omega
theorem Hl {x y:Nat} (h:x*y<28948022309329048855892746252171976963317496166410141009864396001978282409984):tim x y*85070591730234615865843651857942052864<=x*y/\x*y<=(tim x y+5)*85070591730234615865843651857942052864:=by
 have hx:=Nat.div_add_mod x 18446744073709551616;have hy:=Nat.div_add_mod y 18446744073709551616;have lx:=Nat.mod_lt x (show 0<18446744073709551616 by decide);have ly:=Nat.mod_lt y (show 0<18446744073709551616 by decide);refine Hk ?_ (Nat.mul_le_mul (show x % 18446744073709551616<=18446744073709551615 by omega) (show y % 18446744073709551616<=18446744073709551615 by omega)) h;generalize x / 18446744073709551616=xh at *;generalize x % 18446744073709551616=xl at *;generalize y / 18446744073709551616=yh at *;generalize y % 18446744073709551616=yl at *;rw[<- hx,<- hy];grind
theorem Ff (a:Nat):xN a*180000000<=piN*a/\piN*a<=(xN a+1)*180000000:=by
 unfold xN;generalize piN*a=p;omega
abbrev U:Rat:=85070591730234615865843651857942052864
abbrev V:Rat:=1 / 85070591730234615865843651857942052864
def r (n:Nat):Rat:=n*V
theorem r0 (n:Nat):0<=r n:=Rat.mul_nonneg (by exact_mod_cast Nat.zero_le n) (by decide +kernel)
theorem JL {x y:Nat} (h:x*y<28948022309329048855892746252171976963317496166410141009864396001978282409984):r (tim x y)<=r x*r y/\r x*r y<=r (tim x y)+5*V:=by
 obtain ⟨h1,h2⟩:=Hl h;have h1:(tim x y:Rat)*85070591730234615865843651857942052864<=x*y:=by exact_mod_cast h1
 have h2:(x:Rat)*y<=(tim x y+5)*85070591730234615865843651857942052864:=by exact_mod_cast h2
 unfold r;generalize (tim x y:Rat)=t at *;have e:(x:Rat)*V*(y*V)=x*y*(V*V):=by grind
 rw[e];generalize (x:Rat)*y=z at *;clear h e;constructor<;>grind
def X (a:Nat):Rat:=(piN:Rat)*a*(V / 180000000)
theorem X0 (a:Nat):0<=X a:=Rat.mul_nonneg (Rat.mul_nonneg (by decide +kernel) (by exact_mod_cast Nat.zero_le a)) (by decide +kernel)
theorem JX {a:Nat} (h:a<=90000000):X a<=1.571:=by
 have:(a:Rat)<=90000000:=by exact_mod_cast h
 unfold X piN;generalize (a:Rat)=x at *;grind
theorem zeA (a:Nat):r (xN a)<=X a/\X a<=r (xN a)+V:=by
 obtain ⟨h1,h2⟩:=Ff a;have h1:(xN a:Rat)*180000000<=piN*a:=by exact_mod_cast h1
 have h2:(piN:Rat)*a<=(xN a+1)*180000000:=by exact_mod_cast h2
 unfold r X;generalize (piN:Rat)*a=z at *;generalize (xN a:Rat)=x at *;constructor<;>grind
def dv (k:Nat):Nat:=2*(k+1)*(2*(k+1)+1)
def js (k:Nat):Rat:=1 / (dv k:Rat)
theorem dv6 (k:Nat):6<=dv k:=by
 unfold dv;exact Nat.mul_le_mul (show 2<=2*(k+1) by omega) (show 3<=2*(k+1)+1 by omega)
theorem Yx (k:Nat):js k*dv k=1/\0<=js k/\js k<=1 / 6:=by
 have h:(6:Rat)<=dv k:=by exact_mod_cast dv6 k
 unfold js;generalize (dv k:Rat)=d at *;have e:1 / d*d=1:=by grind
 have p:0<=1 / d:=by
  rcases (Rat.le_total:0<=1 / d\/1 / d<=0) with h' | h'
  ·exact h'
  ·have:=Rat.mul_le_mul_of_nonneg_right h' (show 0<=d by grind);grind
 refine⟨e,p,?_⟩;have:=Rat.mul_le_mul_of_nonneg_left h p;grind
theorem Xh {n m:Nat} (h:r n<=m*V):n<=m:=by
 unfold r at h;have:(n:Rat)<=m:=by
  generalize (n:Rat)=x at *;generalize (m:Rat)=y at *;grind
 exact_mod_cast this
theorem DZ (t k:Nat):r (t / dv k)<=r t*js k/\r t*js k<=r (t / dv k)+V:=by
 have h1:=Nat.div_mul_le_self t (dv k);have h2:t<=(t / dv k+1)*dv k:=by
  have:=Nat.div_add_mod t (dv k);have:=Nat.mod_lt t (show 0<dv k by have:=dv6 k;omega);rw[Nat.add_mul,Nat.mul_comm];omega
 obtain ⟨e,p,-⟩:=Yx k;have h1:((t / dv k:Nat):Rat)*dv k<=t:=by exact_mod_cast h1
 have h2:(t:Rat)<=((t / dv k:Nat)+1)*dv k:=by exact_mod_cast h2
 have h1:=Rat.mul_le_mul_of_nonneg_right h1 p;have h2:=Rat.mul_le_mul_of_nonneg_right h2 p;unfold r;generalize (dv k:Rat)=d at *;generalize ((t / dv k:Nat):Rat)=v at *;generalize (t:Rat)=t at *;generalize js k=δ at *;have e1:v*d*δ=v:=by rw[Rat.mul_assoc,Rat.mul_comm d,e,Rat.mul_one]
 have e2:(v+1)*d*δ=v+1:=by rw[Rat.mul_assoc,Rat.mul_comm d,e,Rat.mul_one]
 rw[e1] at h1;rw[e2] at h2;have e3:t*V*δ=t*δ*V:=by grind
 rw[e3];generalize t*δ=w at *;constructor<;>grind
def hR (q:Rat) (k:Nat) (h:Rat):Rat:=1-q*h*js k
def w9 (q:Rat):Nat->Rat->Rat
 |0,h=>h
 |k+1,h=>w9 q k (hR q k h)
def Sn (s:Nat) (h:Rat):Prop:=0<=h/\h<=1/\r s<=1/\r s<=h+7*V/\h<=r s+7*V
theorem Ll {sq:Nat} {q:Rat} (h0:0<=q) (h1:q<=5 / 2) (h2:r sq<=q) (h3:q<=r sq+9*V) (k:Nat) {s:Nat} {h:Rat} (H:Sn s h):Sn (Xp sq k s) (hR q k h):=by
 obtain ⟨a0,a1,a2,a3,a4⟩:=H;have b0:sq<=212676479325586539664609129644855132160:=Xh (by generalize r sq=x at *;grind);have b1:s<=85070591730234615865843651857942052864:=Xh (by generalize r s=x at *;grind);have b2:sq*s<28948022309329048855892746252171976963317496166410141009864396001978282409984:=Nat.lt_of_le_of_lt (Nat.mul_le_mul b0 b1) (by decide);obtain ⟨t1,t2⟩:=JL b2;have t3:tim sq s<=212676479325586539664609129644855132160:=by
  apply Xh;have u1:=Rat.mul_le_mul_of_nonneg_left a2 (r0 sq);generalize r (tim sq s)=x at *;generalize r sq*r s=y at *;generalize r sq=z at *;grind
 obtain ⟨v1,v2⟩:=DZ (tim sq s) k;obtain ⟨e,p,d6⟩:=Yx k;have v3:tim sq s / dv k<=85070591730234615865843651857942052864:=by
  refine Nat.le_trans (Nat.div_le_div_left (dv6 k) (by decide)) ?_;omega
 have en:r (Xp sq k s)=1-r (tim sq s / dv k):=by
  have:Xp sq k s=oneN-tim sq s / dv k:=by
   unfold Xp oneN;rw[Nat.mul_one];change (_-tim sq s / dv k) % _=_
   generalize tim sq s / dv k=v at *;omega
  rw[this];unfold r oneN;have e:85070591730234615865843651857942052864-tim sq s / dv k+tim sq s / dv k=85070591730234615865843651857942052864:=Nat.sub_add_cancel v3;generalize tim sq s / dv k=v at *;generalize 85070591730234615865843651857942052864-v=w at *;have e:(w:Rat)+v=85070591730234615865843651857942052864:=by exact_mod_cast e
  generalize (w:Rat)=w at *;generalize (v:Rat)=v at *;clear t1 t2 v1 v2 t3 this a2 a3 a4 v3 a0 a1;grind
 have r1:=r0 (tim sq s / dv k);rw[Sn,en,hR];have q1:=Rat.mul_le_mul_of_nonneg_right h2 (r0 s);have q2:=Rat.mul_le_mul_of_nonneg_right h3 (r0 s);have q3:=Rat.mul_le_mul_of_nonneg_left a3 h0;have q4:=Rat.mul_le_mul_of_nonneg_left a4 h0;have q5:=Rat.mul_le_mul_of_nonneg_left a1 h0;have q6:=Rat.mul_nonneg h0 a0;generalize r (tim sq s / dv k)=v at *;generalize r (tim sq s)=t at *;generalize r s=x at *;generalize r sq=σ at *;generalize js k=δ at *;have c1:t<=q*h+35 / 2*V:=by grind
 have c2:q*h<=t+63 / 2*V:=by grind
 have c1:=Rat.mul_le_mul_of_nonneg_right c1 p;have c2:=Rat.mul_le_mul_of_nonneg_right c2 p;have c3:=Rat.mul_le_mul_of_nonneg_right q5 p;have c4:=Rat.mul_nonneg q6 p;have c5:=Rat.mul_le_mul_of_nonneg_right h1 p;rw[Rat.add_mul] at c1 c2;generalize q*h*δ=z at *;generalize t*δ=w at *;clear t1 t2 q1 q2 q3 q4 e en;refine⟨?_,?_,?_,?_,?_⟩<;>grind
theorem SJ (q:Rat) (k:Nat) (h:Rat):w9 q (k+1) h=w9 q k (hR q k h):=rfl
theorem TF {sq:Nat} {q:Rat} (h0:0<=q) (h1:q<=5 / 2) (h2:r sq<=q) (h3:q<=r sq+9*V):∀(k:Nat) {s:Nat} {h:Rat},Sn s h->Sn (TD (Xp sq) k s) (w9 q k h)
 |0,_,_,H=>H
 |k+1,_,_,H=>by
  rw[NK,SJ];exact TF h0 h1 h2 h3 k (Ll h0 h1 h2 h3 k H)
theorem K9:Sn oneN 1:=by
 have:r oneN=1:=by
  unfold r oneN;have:((85070591730234615865843651857942052864:Nat):Rat)=85070591730234615865843651857942052864:=by norm_cast
  rw[this];grind
 rw[Sn,this];refine⟨?_,?_,?_,?_,?_⟩<;>decide +kernel
theorem zaD {a:Nat} (h:a<=90000000):xN a<=133650000000000000000000000000000000000:=by
 unfold xN piN;omega
theorem zax {a:Nat} (h:a<=90000000):∃s:Nat,stN a=tim (xN a) s/\Sn s (w9 (X a*X a) 17 1)/\r (stN a)<=X a*w9 (X a*X a) 17 1+18*V/\X a*w9 (X a*X a) 17 1<=r (stN a)+18*V:=by
 obtain ⟨x1,x2⟩:=zeA a;have x0:=X0 a;have x3:=JX h;have n1:=zaD h;have hp:xN a*xN a<28948022309329048855892746252171976963317496166410141009864396001978282409984:=Nat.lt_of_le_of_lt (Nat.mul_le_mul n1 n1) (by decide);obtain ⟨s1,s2⟩:=JL hp;have k1:=Rat.mul_le_mul_of_nonneg_left x1 (r0 (xN a));have k2:=Rat.mul_le_mul_of_nonneg_left x1 x0;have k3:=Rat.mul_le_mul_of_nonneg_left x2 x0;have k4:=Rat.mul_le_mul_of_nonneg_left x2 (r0 (xN a));have k5:=Rat.mul_le_mul_of_nonneg_left x3 x0;have hq0:0<=X a*X a:=Rat.mul_nonneg x0 x0;have m:Sn (Ym (tim (xN a) (xN a)) 17 oneN) (w9 (X a*X a) 17 1):=by
  refine TF hq0 ?_ ?_ ?_ 17 K9
  ·generalize X a*X a=q at *;generalize X a=x at *;clear k1 k2 k3 k4 s1 s2 x1 x2;grind
  ·generalize X a*X a=q at *;generalize X a=x at *;generalize r (tim (xN a) (xN a))=t at *;generalize r (xN a)=ξ at *;clear k3 k4 s2 x2;grind
  ·generalize X a*X a=q at *;generalize X a=x at *;generalize r (tim (xN a) (xN a))=t at *;generalize r (xN a)=ξ at *;clear k1 k2 s1;grind
 refine⟨Ym (tim (xN a) (xN a)) 17 oneN,rfl,m,?_⟩;show r (tim (xN a) (Ym (tim (xN a) (xN a)) 17 oneN))<=_/\_<=r (tim (xN a) (Ym (tim (xN a) (xN a)) 17 oneN))+_;generalize Ym (tim (xN a) (xN a)) 17 oneN=s at *;generalize w9 (X a*X a) 17 1=H at *;obtain ⟨a0,a1,a2,a3,a4⟩:=m;have b1:s<=85070591730234615865843651857942052864:=Xh (by generalize r s=x at *;clear k1 k2 k3 k4 k5 s1 s2;grind);have b2:xN a*s<28948022309329048855892746252171976963317496166410141009864396001978282409984:=Nat.lt_of_le_of_lt (Nat.mul_le_mul n1 b1) (by decide);obtain ⟨t1,t2⟩:=JL b2;clear k1 k2 k3 k4 k5 s1 s2 b2 b1 hp n1 hq0;have g1:=Rat.mul_le_mul_of_nonneg_right x1 (r0 s);have g2:=Rat.mul_le_mul_of_nonneg_right x2 (r0 s);have g3:=Rat.mul_le_mul_of_nonneg_left a3 x0;have g4:=Rat.mul_le_mul_of_nonneg_left a4 x0;generalize r (tim (xN a) s)=t at *;generalize r (xN a)=ξ at *;generalize r s=σ at *;generalize X a=x at *;constructor<;>grind
def upR (q:Rat):Nat->Nat->Rat->Rat
 |0,_,h=>h
 |n+1,k,h=>1-q*upR q n (k+1) h*js k
theorem N9 (q:Rat):∀(n k:Nat) (h:Rat),upR q (n+1) k h=upR q n k (hR q (k+n) h)
 |0,k,h=>rfl
 |n+1,k,h=>by
  show 1-q*upR q (n+1) (k+1) h*js k=1-q*upR q n (k+1) (hR q (k+(n+1)) h)*js k;rw[N9 q n (k+1) h,show k+1+n=k+(n+1) by omega]
theorem Oi (q:Rat):∀(n:Nat) (h:Rat),w9 q n h=upR q n 0 h
 |0,h=>rfl
 |n+1,h=>by rw[SJ,Oi q n,N9,Nat.zero_add]
theorem Yk {q:Rat} (h0:0<=q) (h1:q<=5 / 2) (k:Nat) {h:Rat} (a0:0<=h) (a1:h<=1):0<=hR q k h/\hR q k h<=1:=by
 obtain ⟨-,p,d6⟩:=Yx k;have q1:=Rat.mul_nonneg (Rat.mul_nonneg h0 a0) p;have q2:=Rat.mul_le_mul_of_nonneg_right (Rat.mul_le_mul_of_nonneg_left a1 h0) p;have q3:=Rat.mul_le_mul_of_nonneg_right h1 p;unfold hR;generalize q*h*js k=z at *;generalize js k=δ at *;constructor<;>grind
def evQ (x:Rat):List Nat->Rat
 |[]=>0
 |c::l=>c-x*evQ x l
def chk (cc E0:Rat):List Nat->Nat->Rat->Bool
 |[],_,C=>decide (C<=E0)
 |f::l,k,C=>decide ((f:Rat)<=C) && decide (C<=f+1) && chk cc E0 l (k+1) (C*(cc*js k))
def Tg (E0 A:Rat):List Nat->Rat
 |[]=>E0
 |_::l=>1+A*Tg E0 A l
theorem ser {cc E0 A x q h:Rat} (hq:q=cc*x) (hcc:0<=cc) (x0:0<=x) (xA:x<=A) (h0:0<=h) (h1:h<=1):∀(l:List Nat) (k:Nat) (C:Rat),0<=C->chk cc E0 l k C=true ->
  0<=Tg E0 A l/\evQ x l<=C*upR q l.length k h+Tg E0 A l/\C*upR q l.length k h<=evQ x l+Tg E0 A l
 |[],k,C,hC,H=>by
  have H:C<=E0:=zt_ H;have k1:=Rat.mul_le_mul_of_nonneg_left h1 hC;have k2:=Rat.mul_nonneg hC h0;show 0<=E0/\0<=C*h+E0/\C*h<=0+E0;generalize C*h=z at *;refine⟨?_,?_,?_⟩<;>grind
 |f::l,k,C,hC,H=>by
  unfold chk at H;rw[Bool.and_eq_true,Bool.and_eq_true,decide_eq_true_eq,decide_eq_true_eq] at H;obtain ⟨⟨f1,f2⟩,H⟩:=H;obtain ⟨-,p,-⟩:=Yx k;obtain ⟨e0,e1,e2⟩:=ser hq hcc x0 xA h0 h1 l (k+1) _ (Rat.mul_nonneg hC (Rat.mul_nonneg hcc p)) H;show 0<=1+A*Tg E0 A l/\f-x*evQ x l<=C*(1-q*upR q l.length (k+1) h*js k)+(1+A*Tg E0 A l)/\C*(1-q*upR q l.length (k+1) h*js k)<=f-x*evQ x l+(1+A*Tg E0 A l);have e:C*(1-q*upR q l.length (k+1) h*js k)=C-x*(C*(cc*js k)*upR q l.length (k+1) h):=by rw[hq];grind
  rw[e];generalize C*(cc*js k)*upR q l.length (k+1) h=u at *;generalize evQ x l=v at *;generalize Tg E0 A l=w at *;generalize (f:Rat)=f at *;have g1:=Rat.mul_le_mul_of_nonneg_left e1 x0;have g2:=Rat.mul_le_mul_of_nonneg_left e2 x0;have g3:=Rat.mul_le_mul_of_nonneg_right xA e0;have g4:=Rat.mul_nonneg x0 e0;clear H hq e p;refine⟨?_,?_,?_⟩<;>grind
end SunQ
end Go.Proofs.YtkojpnkknehhmaaGreatDoor
set_option maxRecDepth 100000
namespace Go.Proofs.YtkojpnkknehhmaaGreatDoor
open Go.RowKit
namespace Sun
def gl:List Nat:=[12795985089016160849402299382636901671180655675926382079628618558973806678447359080026311372254323219511604352234618827657528267311884129774085495792181121121628723522696288792306778239667958296500020485415114902237396075818534638998433027346595432220444,649646660240883278979249268060156688143792370736974577697504659101146274043180000937054268247662221950859563412628276337460374199862796288216868665182213171532321276854742874963313852390412122157828341890298839187343443302318424892400839,9894684470781519843565547116824170176478134268790560677108280068339658276405400213484021052579190561013818234479958997612995393094620486023375618483417187242214123642997854518641806160710973852060995751735099313700704192,71764125073644782110255348682262478275454997701514858005784410836814462852115368578093004425328648321619751138689385693133508574643655308292454138900629092629488051897139950221348509475892347799412283757,303619480738671010684374493753632480393302497770772248335495126048476455855676991664334578265777655337414651452267035381604670899660379846044418190542415645673200336943811488691129757599,840798025632674847191827584236225718173359242898078602721938845218927772042071435346794681686644200474260744560138307931652476610517662588135661224550448727888648145235,1641805930320412122415275166528881578531124847652991873432511846870685957084459994267762250823492275900748417460683972807489474162515668114232972188583,2381536601355812512323818214292270512047466110363635200550075137407370001043406933593027820807169478134598503858769153458014093224613,2667123289090495706241258870844496782521472200521910287879960294871831247671939834427492346257122823073803302129438,2375591270689434171085550075176691715374010464024298273865663579582006131784439957242956669635176,1722967817488675878454571814298546446955087497591429093592684156165068730119082,1037245080906990328534429347880415280111401362148588205793662,526604867053905329526263286977572164753361,228508569585588821538163]
def Qo:List Nat->List Nat × List Nat
 |[]=>([],[])
 |c::l=>(c::0::(Qo l).2,0::0::(Qo l).1)
def evI (x:Int):List Nat->Int
 |[]=>0
 |c::l=>c-x*evI x l
theorem Kt (x:Nat):∀l:List Nat,(ev x (Qo l).1:Int)-ev x (Qo l).2=evI (x*x) l
 |[]=>rfl
 |c::l=>by
  show ((c+x*(0+x*ev x (Qo l).2):Nat):Int)-((0+x*(0+x*ev x (Qo l).1):Nat):Int)=c-x*x*evI (x*x) l;rw[<- Kt x l];push_cast
  grind
theorem SL (x:Nat):∀l:List Nat,ev x (l++[0])=ev x l
 |[]=>by simp[ev]
 |c::l=>by simp[ev,SL x l]
theorem F_eq (a:Nat):F a=a*evI (a*a) gl:=by
 have h1:fP++[0]=0::(Qo gl).1:=by decide +kernel
 have h2:fM++[0]=0::(Qo gl).2:=by decide +kernel
 unfold F;rw[<- SL a fP,<- SL a fM,h1,h2,<- Kt];simp only[ev];push_cast
 grind
end Sun
namespace SunQ
theorem HE (x:Int):∀l:List Nat,((Sun.evI x l:Int):Rat)=evQ x l
 |[]=>rfl
 |c::l=>by
  have:=HE x l;simp only[Sun.evI,evQ,<- this];push_cast
  rfl
abbrev c0:Rat:=piN*(V / 180000000)
theorem Gs:chk (c0*c0) 85725 Sun.gl 0 (733155940312959006833120868702075865362476522807568704753701112379163238537034346479239277205110486410991603436006392833904559635381078443531392666664053238285129582284267829818030112293861856671873024210732678335383822172332482140553184949925741959577600000000*c0)=true:=by decide +kernel
theorem GF:Tg 85725 8100000000000000 Sun.gl*90000000<=40377578257143433847423597360955540066869370045918526773996301965250219011889131512372717517176729922557718169966657105891132094649025418658283290003138105960900000387420489000000047829690000000005904900000000000729000000000000090000000:=by decide +kernel
theorem Pr {a:Nat} (h:a<=90000000) {b:Rat} (b0:0<=b) (b1:b<=1):733155940312959006833120868702075865362476522807568704753701112379163238537034346479239277205110486410991603436006392833904559635381078443531392666664053238285129582284267829818030112293861856671873024210732678335383822172332482140553184949925741959577600000000*(X a*upR (X a*X a) 14 0 b)<=(Sun.F a:Int)+40377578257143433847423597360955540066869370045918526773996301965250219011889131512372717517176729922557718169966657105891132094649025418658283290003138105960900000387420489000000047829690000000005904900000000000729000000000000090000000/\((Sun.F a:Int):Rat)<=733155940312959006833120868702075865362476522807568704753701112379163238537034346479239277205110486410991603436006392833904559635381078443531392666664053238285129582284267829818030112293861856671873024210732678335383822172332482140553184949925741959577600000000*(X a*upR (X a*X a) 14 0 b)+40377578257143433847423597360955540066869370045918526773996301965250219011889131512372717517176729922557718169966657105891132094649025418658283290003138105960900000387420489000000047829690000000005904900000000000729000000000000090000000:=by
 have a0:(0:Rat)<=a:=by exact_mod_cast Nat.zero_le a
 have a1:(a:Rat)<=90000000:=by exact_mod_cast h
 have ea:X a=c0*a:=by unfold X;grind
 have eq:X a*X a=c0*c0*((a:Rat)*a):=by rw[ea];grind
 have aA:(a:Rat)*a<=8100000000000000:=by
  have:=Rat.mul_le_mul_of_nonneg_left a1 a0;have:=Rat.mul_le_mul_of_nonneg_right a1 (show (0:Rat)<=90000000 by decide +kernel);grind
 obtain ⟨k0,k1,k2⟩:=ser eq (Rat.mul_nonneg (by decide +kernel) (by decide +kernel)) (Rat.mul_nonneg a0 a0) aA b0 b1 Sun.gl 0 _ (by decide +kernel) Gs;rw[show Sun.gl.length=14 from rfl] at k1 k2;generalize upR (X a*X a) 14 0 b=H at *;have hE:=GF;have eF:((Sun.F a:Int):Rat)=a*evQ ((a:Rat)*a) Sun.gl:=by
  rw[Sun.F_eq];push_cast
  rw[HE];push_cast
  rfl
 rw[eF,ea];generalize evQ ((a:Rat)*a) Sun.gl=G at *;generalize Tg 85725 8100000000000000 Sun.gl=w at *;have j1:=Rat.mul_le_mul_of_nonneg_left k1 a0;have j2:=Rat.mul_le_mul_of_nonneg_left k2 a0;have j3:=Rat.mul_le_mul_of_nonneg_right a1 k0;have e1:(a:Rat)*(733155940312959006833120868702075865362476522807568704753701112379163238537034346479239277205110486410991603436006392833904559635381078443531392666664053238285129582284267829818030112293861856671873024210732678335383822172332482140553184949925741959577600000000*c0*H+w)=733155940312959006833120868702075865362476522807568704753701112379163238537034346479239277205110486410991603436006392833904559635381078443531392666664053238285129582284267829818030112293861856671873024210732678335383822172332482140553184949925741959577600000000*(c0*a*H)+a*w:=by grind
 have e2:(a:Rat)*(733155940312959006833120868702075865362476522807568704753701112379163238537034346479239277205110486410991603436006392833904559635381078443531392666664053238285129582284267829818030112293861856671873024210732678335383822172332482140553184949925741959577600000000*c0*H)=733155940312959006833120868702075865362476522807568704753701112379163238537034346479239277205110486410991603436006392833904559635381078443531392666664053238285129582284267829818030112293861856671873024210732678335383822172332482140553184949925741959577600000000*(c0*a*H):=by grind
 have e3:(a:Rat)*(G+w)=a*G+a*w:=by grind
 rw[e1] at j1;rw[e2,e3] at j2;generalize c0*(a:Rat)*H=z at *;generalize (a:Rat)*G=y at *;generalize (a:Rat)*w=v at *;clear e1 e2 e3 eF eq ea k0 k1 k2 aA a0 a1 b0 b1;constructor<;>grind
theorem X_q {a:Nat} (h:a<=90000000):0<=X a*X a/\X a*X a<=5 / 2:=by
 have x0:=X0 a;have x3:=JX h;refine⟨Rat.mul_nonneg x0 x0,?_⟩;have:=Rat.mul_le_mul_of_nonneg_left x3 x0;generalize X a*X a=q at *;generalize X a=x at *;grind
theorem GO {a:Nat} (h:a<=90000000):r (stN a)*733155940312959006833120868702075865362476522807568704753701112379163238537034346479239277205110486410991603436006392833904559635381078443531392666664053238285129582284267829818030112293861856671873024210732678335383822172332482140553184949925741959577600000000<=(Sun.F a:Int)+6668014432879854274079851790721257797144758322315908160396257811764037237817632071521432200871554290742929910593433240445888801654119365080363356052330830046095157579514014558463078285911814024728965016135886601981690748037476461291163877376/\((Sun.F a:Int):Rat)<=r (stN a)*733155940312959006833120868702075865362476522807568704753701112379163238537034346479239277205110486410991603436006392833904559635381078443531392666664053238285129582284267829818030112293861856671873024210732678335383822172332482140553184949925741959577600000000+6668014432879854274079851790721257797144758322315908160396257811764037237817632071521432200871554290742929910593433240445888801654119365080363356052330830046095157579514014558463078285911814024728965016135886601981690748037476461291163877376:=by
 obtain ⟨s,-,-,h1,h2⟩:=zax h;obtain ⟨hq0,hq1⟩:=X_q h;have h16:=Yk hq0 hq1 16 (h:=1) (by decide +kernel) (by decide +kernel);have h15:=Yk hq0 hq1 15 h16.1 h16.2;have h14:=Yk hq0 hq1 14 h15.1 h15.2;have e17:w9 (X a*X a) 17 1=w9 (X a*X a) 14 (hR (X a*X a) 14 (hR (X a*X a) 15 (hR (X a*X a) 16 1))):=rfl;rw[e17,Oi] at h1 h2;obtain ⟨g1,g2⟩:=Pr h h14.1 h14.2;clear h16 h15 h14 e17 hq0 hq1;generalize X a*upR (X a*X a) 14 0 (hR (X a*X a) 14 (hR (X a*X a) 15 (hR (X a*X a) 16 1)))=z at *;generalize ((Sun.F a:Int):Rat)=y at *;generalize r (stN a)=t at *;constructor<;>grind
end SunQ
namespace SunQ
def G (a:Nat):Int:=Sun.F a / 7331559403129590068331208687020758653624765228075687047537011123791632385370343464792392772051104864109916034360063928339045596353810784435313926666640532382851295822842678298180301122938618566718730242107326783353838221723324821405531849499257419595776
theorem Ka {s:Nat} {K f E:Int} (h:(s:Rat)*(K:Rat)<=(f:Rat)+(E:Rat)):(s:Int)*K<=f+E:=by exact_mod_cast h
theorem Kb {s:Nat} {K f E:Int} (h:(f:Rat)<=(s:Rat)*(K:Rat)+(E:Rat)):f<=(s:Int)*K+E:=by exact_mod_cast h
theorem K8 {a:Nat} (h:a<=90000000):(stN a:Int)*8618206661096855154263637824110802805637676732945488051401983431587810761600337218951031253037200918490288896173962391901011037798701144249348611720236041584566638462776843629677221900917674339977286863643904206438400000000<=Sun.F a+6668014432879854274079851790721257797144758322315908160396257811764037237817632071521432200871554290742929910593433240445888801654119365080363356052330830046095157579514014558463078285911814024728965016135886601981690748037476461291163877376/\Sun.F a<=(stN a:Int)*8618206661096855154263637824110802805637676732945488051401983431587810761600337218951031253037200918490288896173962391901011037798701144249348611720236041584566638462776843629677221900917674339977286863643904206438400000000+6668014432879854274079851790721257797144758322315908160396257811764037237817632071521432200871554290742929910593433240445888801654119365080363356052330830046095157579514014558463078285911814024728965016135886601981690748037476461291163877376:=by
 obtain ⟨h1,h2⟩:=GO h;have e:r (stN a)*733155940312959006833120868702075865362476522807568704753701112379163238537034346479239277205110486410991603436006392833904559635381078443531392666664053238285129582284267829818030112293861856671873024210732678335383822172332482140553184949925741959577600000000=((stN a:Nat):Rat)*((8618206661096855154263637824110802805637676732945488051401983431587810761600337218951031253037200918490288896173962391901011037798701144249348611720236041584566638462776843629677221900917674339977286863643904206438400000000:Int):Rat):=by
  unfold r;rw[show ((8618206661096855154263637824110802805637676732945488051401983431587810761600337218951031253037200918490288896173962391901011037798701144249348611720236041584566638462776843629677221900917674339977286863643904206438400000000:Int):Rat)=V*733155940312959006833120868702075865362476522807568704753701112379163238537034346479239277205110486410991603436006392833904559635381078443531392666664053238285129582284267829818030112293861856671873024210732678335383822172332482140553184949925741959577600000000 by decide +kernel,Rat.mul_assoc]
 rw[e] at h1 h2;rw[show (6668014432879854274079851790721257797144758322315908160396257811764037237817632071521432200871554290742929910593433240445888801654119365080363356052330830046095157579514014558463078285911814024728965016135886601981690748037476461291163877376:Rat)=((6668014432879854274079851790721257797144758322315908160396257811764037237817632071521432200871554290742929910593433240445888801654119365080363356052330830046095157579514014558463078285911814024728965016135886601981690748037476461291163877376:Int):Rat) by decide +kernel] at h1 h2;exact⟨Ka h1,Kb h2⟩
theorem Ov {a:Nat} (hf:Sun.FarF a) {p d n:Nat} {K:Int} (hK:0<K) (hd:(d:Int)*K=7331559403129590068331208687020758653624765228075687047537011123791632385370343464792392772051104864109916034360063928339045596353810784435313926666640532382851295822842678298180301122938618566718730242107326783353838221723324821405531849499257419595776) (hn:n=p / d) (hd0:0<d) (h1:(p:Int)*K<=Sun.F a+853505847408621347082221029212320998034529065256436244530720999905796766440656905154743321711558949215095028555959454777073766611727278730286509574698346245900180170177793863483274020596712195165307522065393485053656415748796987045268976304128) (h2:Sun.F a<=(p:Int)*K+853505847408621347082221029212320998034529065256436244530720999905796766440656905154743321711558949215095028555959454777073766611727278730286509574698346245900180170177793863483274020596712195165307522065393485053656415748796987045268976304128):(n:Int)=G a:=by
 have g1:=Nat.div_mul_le_self p d;have g2:p<(p / d+1)*d:=by
  have:=Nat.div_add_mod p d;have:=Nat.mod_lt p hd0;rw[Nat.add_mul,Nat.mul_comm];omega
 rw[<- hn] at g1 g2;have g1:(n:Int)*7331559403129590068331208687020758653624765228075687047537011123791632385370343464792392772051104864109916034360063928339045596353810784435313926666640532382851295822842678298180301122938618566718730242107326783353838221723324821405531849499257419595776<=p*K:=by
  have:=Int.mul_le_mul_of_nonneg_right (Int.ofNat_le.2 g1) (Int.le_of_lt hK);rw[Int.natCast_mul,Int.mul_assoc,hd] at this;exact this
 have g2:(p:Int)*K<(n+1)*7331559403129590068331208687020758653624765228075687047537011123791632385370343464792392772051104864109916034360063928339045596353810784435313926666640532382851295822842678298180301122938618566718730242107326783353838221723324821405531849499257419595776:=by
  have:=Int.mul_lt_mul_of_pos_right (Int.ofNat_lt.2 g2) hK;rw[Int.natCast_mul,Int.mul_assoc,hd,Int.natCast_add] at this;exact this
 have f1:=hf n;have f2:=hf (n+1);unfold G;generalize Sun.F a=f at *;generalize (p:Int)*K=z at *;clear hd hn hd0 hK hf;have u1:(n:Int)*7331559403129590068331208687020758653624765228075687047537011123791632385370343464792392772051104864109916034360063928339045596353810784435313926666640532382851295822842678298180301122938618566718730242107326783353838221723324821405531849499257419595776<f:=by omega
 have u2:f<((n:Int)+1)*7331559403129590068331208687020758653624765228075687047537011123791632385370343464792392772051104864109916034360063928339045596353810784435313926666640532382851295822842678298180301122938618566718730242107326783353838221723324821405531849499257419595776:=by omega
 clear f1 f2 g1 g2 h1 h2;omega
theorem HN {a:Nat} (h0:0<a) (h1:a<90000000) (h2:a≠30000000) (hf:Sun.FarF a):((stN a*100000000 / 85070591730234615865843651857942052864:Nat):Int)=G a:=by
 obtain ⟨g1,g2⟩:=K8 (Nat.le_of_lt h1);refine Ov hf (p:=stN a*100000000) (d:=85070591730234615865843651857942052864) (K:=86182066610968551542636378241108028056376767329454880514019834315878107616003372189510312530372009184902888961739623919010110377987011442493486117202360415845666384627768436296772219009176743399772868636439042064384) (by decide) (by decide) rfl (by decide) ?_ ?_
 ·rw[Int.natCast_mul,show ((100000000:Nat):Int)=100000000 from rfl,Int.mul_assoc];have e:(100000000:Int)*86182066610968551542636378241108028056376767329454880514019834315878107616003372189510312530372009184902888961739623919010110377987011442493486117202360415845666384627768436296772219009176743399772868636439042064384=8618206661096855154263637824110802805637676732945488051401983431587810761600337218951031253037200918490288896173962391901011037798701144249348611720236041584566638462776843629677221900917674339977286863643904206438400000000:=by decide
  rw[e];omega
 ·rw[Int.natCast_mul,show ((100000000:Nat):Int)=100000000 from rfl,Int.mul_assoc];have e:(100000000:Int)*86182066610968551542636378241108028056376767329454880514019834315878107616003372189510312530372009184902888961739623919010110377987011442493486117202360415845666384627768436296772219009176743399772868636439042064384=8618206661096855154263637824110802805637676732945488051401983431587810761600337218951031253037200918490288896173962391901011037798701144249348611720236041584566638462776843629677221900917674339977286863643904206438400000000:=by decide
  rw[e];omega
end SunQ
end Go.Proofs.YtkojpnkknehhmaaGreatDoor
set_option maxRecDepth 100000
namespace Go.Proofs.YtkojpnkknehhmaaGreatDoor
open Go.RowKit
namespace SunQ
/-! The document's sine: numbers of 45 decimal digits behind the point. -/
def piD:Nat:=3141592653589793238462643383279502884197169399
def xD (a:Nat):Nat:=piD*a / 180000000
def sqD (a:Nat):Nat:=xD a*xD a / 1000000000000000000000000000000000000000000000
def dT (a:Nat):Nat->Nat
 |0=>xD a
 |k+1=>dT a k*sqD a / 1000000000000000000000000000000000000000000000*1 / (2*(k+1)*(2*(k+1)+1))
def dU (a:Nat):Nat->Nat
 |0=>xD a
 |k+1=>if (k+1) % 2=0 then dU a k+dT a (k+1) else dU a k
def dD (a:Nat):Nat->Nat
 |0=>0
 |k+1=>if (k+1) % 2=0 then dD a k else dD a k+dT a (k+1)
def T (x q:Rat):Nat->Rat
 |0=>x
 |k+1=>T x q k*(q*js k)
def sg:Nat->Rat
 |0=>1
 |k+1 => -sg k
def S (x q:Rat):Nat->Rat
 |0=>0
 |k+1=>S x q k+sg k*T x q k
theorem LN (x q:Rat):∀(k:Nat) (h:Rat),x*w9 q k h=S x q k+sg k*T x q k*h
 |0,h=>by
  show x*h=0+1*x*h;grind
 |k+1,h=>by
  rw[SJ,LN x q k];show S x q k+sg k*T x q k*(1-q*h*js k)=S x q k+sg k*T x q k + -sg k*(T x q k*(q*js k))*h;grind
theorem JB:∀k:Nat,sg k=if k % 2=0 then 1 else -1
 |0=>rfl
 |k+1=>by
  show -sg k=_;rw[JB k];rcases Nat.mod_two_eq_zero_or_one k with h | h
  ·rw[if_pos h,if_neg (by omega)]
  ·rw[if_neg (by omega),if_pos (by omega)];grind
theorem Dr {x q:Rat} (x0:0<=x) (x1:x<=1.571) (q0:0<=q) (q1:q<=5 / 2):∀k,0<=T x q k/\T x q k<=1.571
 |0=>⟨x0,x1⟩
 |k+1=>by
  obtain ⟨h0,h1⟩:=Dr x0 x1 q0 q1 k;obtain ⟨-,p,d6⟩:=Yx k;show 0<=T x q k*(q*js k)/\T x q k*(q*js k)<=1.571;have k1:=Rat.mul_nonneg q0 p;have k2:=Rat.mul_le_mul_of_nonneg_right q1 p;have k4:=Rat.mul_nonneg h0 k1;have k5:q*js k<=1:=by
   generalize q*js k=z at *;generalize js k=δ at *;clear h0 h1 k4;grind
  have k3:=Rat.mul_le_mul_of_nonneg_left k5 h0;generalize T x q k*(q*js k)=y at *;exact⟨k4,by grind⟩
abbrev W:Rat:=1 / 1329227995784915872903807060280344576
def g (n:Nat):Rat:=n*(1 / 1000000000000000000000000000000000000000000000)
theorem g0 (n:Nat):0<=g n:=Rat.mul_nonneg (by exact_mod_cast Nat.zero_le n) (by decide +kernel)
theorem Gx (p d:Nat) (h:0<d):p / d*d<=p/\p<=(p / d+1)*d:=by
 refine⟨Nat.div_mul_le_self p d,?_⟩;have h1:=Nat.div_add_mod p d;have:=Nat.mod_lt p h;rw[Nat.add_mul,Nat.mul_comm];omega
theorem HS (x y:Nat):g (x*y / 1000000000000000000000000000000000000000000000)<=g x*g y/\g x*g y<=g (x*y / 1000000000000000000000000000000000000000000000)+W:=by
 obtain ⟨h1,h2⟩:=Gx (x*y) 1000000000000000000000000000000000000000000000 (by decide);have h1:((x*y / 1000000000000000000000000000000000000000000000:Nat):Rat)*1000000000000000000000000000000000000000000000<=x*y:=by exact_mod_cast h1
 have h2:(x:Rat)*y<=((x*y / 1000000000000000000000000000000000000000000000:Nat)+1)*1000000000000000000000000000000000000000000000:=by exact_mod_cast h2
 unfold g;generalize ((x*y / 1000000000000000000000000000000000000000000000:Nat):Rat)=t at *;have e:(x:Rat)*(1 / 1000000000000000000000000000000000000000000000)*(y*(1 / 1000000000000000000000000000000000000000000000))=x*y*(1 / 1000000000000000000000000000000000000000000000*(1 / 1000000000000000000000000000000000000000000000)):=by grind
 rw[e];generalize (x:Rat)*y=z at *;clear e;constructor<;>grind
theorem DY (t k:Nat):g (t / dv k)<=g t*js k/\g t*js k<=g (t / dv k)+W:=by
 obtain ⟨h1,h2⟩:=Gx t (dv k) (by have:=dv6 k;omega);obtain ⟨e,p,-⟩:=Yx k;have h1:((t / dv k:Nat):Rat)*dv k<=t:=by exact_mod_cast h1
 have h2:(t:Rat)<=((t / dv k:Nat)+1)*dv k:=by exact_mod_cast h2
 have h1:=Rat.mul_le_mul_of_nonneg_right h1 p;have h2:=Rat.mul_le_mul_of_nonneg_right h2 p;unfold g;generalize (dv k:Rat)=d at *;generalize ((t / dv k:Nat):Rat)=v at *;generalize (t:Rat)=t at *;generalize js k=δ at *;have e1:v*d*δ=v:=by rw[Rat.mul_assoc,Rat.mul_comm d,e,Rat.mul_one]
 have e2:(v+1)*d*δ=v+1:=by rw[Rat.mul_assoc,Rat.mul_comm d,e,Rat.mul_one]
 rw[e1] at h1;rw[e2] at h2;have e3:t*(1 / 1000000000000000000000000000000000000000000000)*δ=t*δ*(1 / 1000000000000000000000000000000000000000000000):=by grind
 rw[e3];generalize t*δ=w at *;constructor<;>grind
theorem zaC {a:Nat} (h:a<=90000000):g (xD a)<=X a+W/\X a<=g (xD a)+W:=by
 obtain ⟨h1,h2⟩:=Gx (piD*a) 180000000 (by decide);have a0:(0:Rat)<=a:=by exact_mod_cast Nat.zero_le a
 have a1:(a:Rat)<=90000000:=by exact_mod_cast h
 have h1:((piD*a / 180000000:Nat):Rat)*180000000<=piD*a:=by exact_mod_cast h1
 have h2:(piD:Rat)*a<=((piD*a / 180000000:Nat)+1)*180000000:=by exact_mod_cast h2
 unfold g X xD;generalize ((piD*a / 180000000:Nat):Rat)=v at *;have e1:(piD:Rat)*(1 / 1000000000000000000000000000000000000000000000)<=piN*V+W / 2:=by decide +kernel
 have e2:(piN:Rat)*V<=piD*(1 / 1000000000000000000000000000000000000000000000)+W / 2:=by decide +kernel
 have e1:=Rat.mul_le_mul_of_nonneg_right e1 a0;have e2:=Rat.mul_le_mul_of_nonneg_right e2 a0;have n1:(piN:Rat)*a*(V / 180000000)=piN*V*a / 180000000:=by grind
 have n2:(piD:Rat)*(1 / 1000000000000000000000000000000000000000000000)*a=piD*a*(1 / 1000000000000000000000000000000000000000000000):=by grind
 rw[n1];rw[n2] at e1;rw[Rat.add_mul,n2] at e2;rw[Rat.add_mul] at e1;generalize (piN:Rat)*V*a=y at *;generalize (piD:Rat)*a=z at *;generalize (a:Rat)=x at *;clear n1 n2;constructor<;>grind
theorem zaw {a:Nat} (h:a<=90000000):g (sqD a)<=X a*X a+5*W/\X a*X a<=g (sqD a)+5*W:=by
 obtain ⟨x1,x2⟩:=zaC h;have x0:=X0 a;have x3:=JX h;obtain ⟨s1,s2⟩:=HS (xD a) (xD a);have y0:=g0 (xD a);have k1:=Rat.mul_le_mul_of_nonneg_left x1 y0;have k2:=Rat.mul_le_mul_of_nonneg_right x1 x0;have k3:=Rat.mul_le_mul_of_nonneg_left x2 y0;have k4:=Rat.mul_le_mul_of_nonneg_right x2 x0;unfold sqD;generalize g (xD a*xD a / 1000000000000000000000000000000000000000000000)=t at *;generalize g (xD a)=y at *;generalize X a=x at *;constructor<;>grind
theorem Gu {a:Nat} (h:a<=90000000):∀k,g (dT a k)<=T (X a) (X a*X a) k+8*W/\T (X a) (X a*X a) k<=g (dT a k)+8*W
 |0=>by
  obtain ⟨x1,x2⟩:=zaC h;show g (xD a)<=X a+8*W/\X a<=g (xD a)+8*W;generalize g (xD a)=y at *;generalize X a=x at *;constructor<;>grind
 |k+1=>by
  obtain ⟨i1,i2⟩:=Gu h k;obtain ⟨q0,q1⟩:=X_q h;obtain ⟨T0,T1⟩:=Dr (X0 a) (JX h) q0 q1 k;obtain ⟨s1,s2⟩:=zaw h;obtain ⟨t1,t2⟩:=HS (dT a k) (sqD a);obtain ⟨v1,v2⟩:=DY (dT a k*sqD a / 1000000000000000000000000000000000000000000000) k;obtain ⟨-,p,d6⟩:=Yx k;have e:dT a (k+1)=dT a k*sqD a / 1000000000000000000000000000000000000000000000 / dv k:=by
   show dT a k*sqD a / 1000000000000000000000000000000000000000000000*1 / _=_;rw[Nat.mul_one];rfl
  show g (dT a (k+1))<=T (X a) (X a*X a) k*(X a*X a*js k)+8*W/\T (X a) (X a*X a) k*(X a*X a*js k)<=g (dT a (k+1))+8*W;rw[e,<- Rat.mul_assoc];have y0:=g0 (dT a k);have k1:=Rat.mul_le_mul_of_nonneg_left s1 y0;have k2:=Rat.mul_le_mul_of_nonneg_left s2 y0;have k3:=Rat.mul_le_mul_of_nonneg_right i1 q0;have k4:=Rat.mul_le_mul_of_nonneg_right i2 q0;have k5:=Rat.mul_nonneg T0 q0;generalize g (dT a k*sqD a / 1000000000000000000000000000000000000000000000 / dv k)=v at *;generalize g (dT a k*sqD a / 1000000000000000000000000000000000000000000000)=t' at *;generalize g (dT a k)=t at *;generalize g (sqD a)=σ at *;generalize T (X a) (X a*X a) k=y at *;generalize X a*X a=q at *;have c1:t'<=y*q+28*W:=by grind
  have c2:y*q<=t'+29*W:=by grind
  have c1:=Rat.mul_le_mul_of_nonneg_right c1 p;have c2:=Rat.mul_le_mul_of_nonneg_right c2 p;rw[Rat.add_mul] at c1 c2;generalize y*q*js k=z at *;generalize t'*js k=w at *;generalize js k=δ at *;clear k1 k2 k3 k4 s1 s2 t1 t2 e i1 i2;constructor<;>grind
theorem HG (x y:Nat):g (x+y)=g x+g y:=by
 unfold g;push_cast
 grind
theorem HQ {a:Nat} (h:a<=90000000):∀k:Nat,g (dU a k)-g (dD a k)<=S (X a) (X a*X a) (k+1)+(k+1)*(8*W)/\S (X a) (X a*X a) (k+1)<=g (dU a k)-g (dD a k)+(k+1)*(8*W)
 |0=>by
  obtain ⟨x1,x2⟩:=Gu h 0;have x1:g (xD a)<=X a+8*W:=x1;have x2:X a<=g (xD a)+8*W:=x2;show g (xD a)-g 0<=(0+1*X a)+_/\(0+1*X a)<=g (xD a)-g 0+_;have:g 0=0:=by decide +kernel
  rw[this];generalize g (xD a)=y at *;generalize X a=x at *;constructor<;>grind
 |k+1=>by
  obtain ⟨i1,i2⟩:=HQ h k;obtain ⟨t1,t2⟩:=Gu h (k+1);have es:S (X a) (X a*X a) (k+1+1)=S (X a) (X a*X a) (k+1)+sg (k+1)*T (X a) (X a*X a) (k+1):=rfl;have eu:dU a (k+1)=if (k+1) % 2=0 then dU a k+dT a (k+1) else dU a k:=rfl
  have ed:dD a (k+1)=if (k+1) % 2=0 then dD a k else dD a k+dT a (k+1):=rfl
  rw[es,eu,ed,JB];push_cast
  generalize S (X a) (X a*X a) (k+1)=s at *;generalize T (X a) (X a*X a) (k+1)=y at *;generalize (k:Rat)=κ at *;rcases Nat.mod_two_eq_zero_or_one (k+1) with hk | hk
  ·rw[if_pos hk,if_pos hk,if_pos hk,HG];generalize g (dU a k)=u at *;generalize g (dD a k)=d at *;generalize g (dT a (k+1))=t at *;constructor<;>grind
  ·have hk:¬ (k+1) % 2=0:=by omega
   rw[if_neg hk,if_neg hk,if_neg hk,HG];generalize g (dU a k)=u at *;generalize g (dD a k)=d at *;generalize g (dT a (k+1))=t at *;constructor<;>grind
theorem D0 {a:Nat} (h:a<=90000000):(g (dU a 20)-g (dD a 20))*733155940312959006833120868702075865362476522807568704753701112379163238537034346479239277205110486410991603436006392833904559635381078443531392666664053238285129582284267829818030112293861856671873024210732678335383822172332482140553184949925741959577600000000<=(Sun.F a:Int)+6668014432879854274079851790721257797144758322315908160396257811764037237817632071521432200871554290742929910593433240445888801654119365080363356052330830046095157579514014558463078285911814024728965016135886601981690748037476461291163877376/\((Sun.F a:Int):Rat)<=(g (dU a 20)-g (dD a 20))*733155940312959006833120868702075865362476522807568704753701112379163238537034346479239277205110486410991603436006392833904559635381078443531392666664053238285129582284267829818030112293861856671873024210732678335383822172332482140553184949925741959577600000000+6668014432879854274079851790721257797144758322315908160396257811764037237817632071521432200871554290742929910593433240445888801654119365080363356052330830046095157579514014558463078285911814024728965016135886601981690748037476461291163877376:=by
 obtain ⟨s1,s2⟩:=HQ h 20;obtain ⟨hq0,hq1⟩:=X_q h;have e21:=LN (X a) (X a*X a) 21 0;rw[Rat.mul_zero,Rat.add_zero] at e21;have h20:=Yk hq0 hq1 20 (h:=0) (by decide +kernel) (by decide +kernel);have h19:=Yk hq0 hq1 19 h20.1 h20.2;have h18:=Yk hq0 hq1 18 h19.1 h19.2;have h17:=Yk hq0 hq1 17 h18.1 h18.2;have h16:=Yk hq0 hq1 16 h17.1 h17.2;have h15:=Yk hq0 hq1 15 h16.1 h16.2;have h14:=Yk hq0 hq1 14 h15.1 h15.2;obtain ⟨b,eb⟩:∃b,b=hR (X a*X a) 14 (hR (X a*X a) 15 (hR (X a*X a) 16 (hR (X a*X a) 17 (hR (X a*X a) 18 (hR (X a*X a) 19 (hR (X a*X a) 20 0)))))):=⟨_,rfl⟩;have e:w9 (X a*X a) 21 0=w9 (X a*X a) 14 b:=by rw[eb];rfl
 rw[<- eb] at h14;rw[e,Oi] at e21;rw[<- e21] at s1 s2;obtain ⟨g1,g2⟩:=Pr h h14.1 h14.2;clear h20 h19 h18 h17 h16 h15 h14 eb e e21 hq0 hq1;generalize X a*upR (X a*X a) 14 0 b=z at *;generalize ((Sun.F a:Int):Rat)=y at *;generalize g (dU a 20)-g (dD a 20)=t at *;have n20:((20:Nat):Rat)=20:=by norm_cast
 rw[n20] at s1 s2;constructor<;>grind
theorem Kc {u d:Nat} {K f E M:Int} (h:((u:Rat)-d)*(K:Rat)<=((f:Rat)+(E:Rat))*(M:Rat)):((u:Int)-d)*K<=(f+E)*M:=by
 rw[show ((u:Nat):Rat)=((u:Int):Rat) from rfl,show ((d:Nat):Rat)=((d:Int):Rat) from rfl] at h;exact_mod_cast h
theorem Kd {u d:Nat} {K f E M:Int} (h:(f:Rat)*(M:Rat)<=((u:Rat)-d)*(K:Rat)+(E:Rat)*(M:Rat)):f*M<=((u:Int)-d)*K+E*M:=by
 rw[show ((u:Nat):Rat)=((u:Int):Rat) from rfl,show ((d:Nat):Rat)=((d:Int):Rat) from rfl] at h;exact_mod_cast h
theorem D2 {a:Nat} (h:a<=90000000):((dU a 20:Int)-dD a 20)*7331559403129590068331208687020758653624765228075687047537011123791632385370343464792392772051104864109916034360063928339045596353810784435313926666640532382851295822842678298180301122938618566718730242107326783353838221723324821405531849499257419595776<=(Sun.F a+6668014432879854274079851790721257797144758322315908160396257811764037237817632071521432200871554290742929910593433240445888801654119365080363356052330830046095157579514014558463078285911814024728965016135886601981690748037476461291163877376)*10000000000000000000000000000000000000/\Sun.F a*10000000000000000000000000000000000000<=((dU a 20:Int)-dD a 20)*7331559403129590068331208687020758653624765228075687047537011123791632385370343464792392772051104864109916034360063928339045596353810784435313926666640532382851295822842678298180301122938618566718730242107326783353838221723324821405531849499257419595776+6668014432879854274079851790721257797144758322315908160396257811764037237817632071521432200871554290742929910593433240445888801654119365080363356052330830046095157579514014558463078285911814024728965016135886601981690748037476461291163877376*10000000000000000000000000000000000000:=by
 obtain ⟨h1,h2⟩:=D0 h;have e1:(7331559403129590068331208687020758653624765228075687047537011123791632385370343464792392772051104864109916034360063928339045596353810784435313926666640532382851295822842678298180301122938618566718730242107326783353838221723324821405531849499257419595776:Rat)=((7331559403129590068331208687020758653624765228075687047537011123791632385370343464792392772051104864109916034360063928339045596353810784435313926666640532382851295822842678298180301122938618566718730242107326783353838221723324821405531849499257419595776:Int):Rat):=by decide +kernel
 have e2:(6668014432879854274079851790721257797144758322315908160396257811764037237817632071521432200871554290742929910593433240445888801654119365080363356052330830046095157579514014558463078285911814024728965016135886601981690748037476461291163877376:Rat)=((6668014432879854274079851790721257797144758322315908160396257811764037237817632071521432200871554290742929910593433240445888801654119365080363356052330830046095157579514014558463078285911814024728965016135886601981690748037476461291163877376:Int):Rat):=by decide +kernel
 have e3:(10000000000000000000000000000000000000:Rat)=((10000000000000000000000000000000000000:Int):Rat):=by decide +kernel
 have eg:g (dU a 20)-g (dD a 20)=(((dU a 20:Nat):Rat)-((dD a 20:Nat):Rat))*(1 / 1000000000000000000000000000000000000000000000):=by unfold g;grind
 rw[eg] at h1 h2;constructor
 ·apply Kc;rw[<- e1,<- e2,<- e3];generalize ((dU a 20:Nat):Rat)-((dD a 20:Nat):Rat)=t at *;generalize ((Sun.F a:Int):Rat)=y at *;clear e1 e2 e3 eg h2;grind
 ·apply Kd;rw[<- e1,<- e2,<- e3];generalize ((dU a 20:Nat):Rat)-((dD a 20:Nat):Rat)=t at *;generalize ((Sun.F a:Int):Rat)=y at *;clear e1 e2 e3 eg h1;grind
theorem zaj {a:Nat} (h:a<=90000000) (hf:Sun.FarF a):853505847408621347082221029212320998034529065256436244530720999905796766440656905154743321711558949215095028555959454777073766611727278730286509574698346245900180170177793863483274020596712195165307522065393485053656415748796987045268976304128<Sun.F a:=by
 obtain ⟨h1,h2⟩:=K8 h;have h3:=hf 0;have h4:(0:Int)<=(stN a:Int)*8618206661096855154263637824110802805637676732945488051401983431587810761600337218951031253037200918490288896173962391901011037798701144249348611720236041584566638462776843629677221900917674339977286863643904206438400000000:=Int.mul_nonneg (Int.natCast_nonneg _) (by decide);generalize (stN a:Int)*8618206661096855154263637824110802805637676732945488051401983431587810761600337218951031253037200918490288896173962391901011037798701144249348611720236041584566638462776843629677221900917674339977286863643904206438400000000=z at *;generalize Sun.F a=f at *;clear hf;omega
theorem D1 {a:Nat} (h:a<=90000000) (hf:Sun.FarF a):dD a 20<=dU a 20/\(((dU a 20-dD a 20) / 10000000000000000000000000000000000000:Nat):Int)=G a:=by
 obtain ⟨h1,h2⟩:=D2 h;have h3:=zaj h hf;have hle:dD a 20<=dU a 20:=by
  generalize dU a 20=u at *;generalize dD a 20=d at *;generalize Sun.F a=f at *;clear hf h1;omega
 refine⟨hle,?_⟩;obtain ⟨p,hp⟩:∃p,p=dU a 20-dD a 20:=⟨_,rfl⟩;rw[<- hp];have e:(dU a 20:Int)-dD a 20=p:=by omega
 rw[e] at h1 h2;have g1:=Nat.div_mul_le_self p 10000000000000000000000000000000000000;have g2:p<(p / 10000000000000000000000000000000000000+1)*10000000000000000000000000000000000000:=by
  have:=Nat.div_add_mod p 10000000000000000000000000000000000000;have:=Nat.mod_lt p (show 0<10000000000000000000000000000000000000 by decide);rw[Nat.add_mul,Nat.mul_comm];omega
 generalize p / 10000000000000000000000000000000000000=n at *;have f1:=hf n;have f2:=hf (n+1);unfold G;generalize Sun.F a=f at *;clear hf hp e hle h3;have u1:(n:Int)*7331559403129590068331208687020758653624765228075687047537011123791632385370343464792392772051104864109916034360063928339045596353810784435313926666640532382851295822842678298180301122938618566718730242107326783353838221723324821405531849499257419595776<f:=by omega
 have u2:f<((n:Int)+1)*7331559403129590068331208687020758653624765228075687047537011123791632385370343464792392772051104864109916034360063928339045596353810784435313926666640532382851295822842678298180301122938618566718730242107326783353838221723324821405531849499257419595776:=by omega
 clear f1 f2 g1 g2 h1 h2;omega
theorem zat {a:Nat} (h0:0<a) (h1:a<90000000) (h2:a≠30000000) (hf:Sun.FarF a):dD a 20<=dU a 20/\(dU a 20-dD a 20) / 10000000000000000000000000000000000000=stN a*100000000 / 85070591730234615865843651857942052864:=by
 obtain ⟨k1,k2⟩:=D1 (Nat.le_of_lt h1) hf;refine⟨k1,?_⟩;have:=HN h0 h1 h2 hf;rw[<- k2] at this;exact(Int.ofNat_inj.1 this).symm
end SunQ
end Go.Proofs.YtkojpnkknehhmaaGreatDoor
set_option maxRecDepth 100000
namespace Go.Proofs.YtkojpnkknehhmaaGreatDoor
open Go.RowKit
namespace SunQ
/-! Two ways of searching. -/
def kD (f:Nat->Bool):Nat->Nat->Nat->Nat
 |0,i,_=>i
 |k+1,i,j=>if j-i>1 then (if f ((i+j) / 2) then kD f k ((i+j) / 2) j else kD f k i ((i+j) / 2)) else i
theorem xJ (f:Nat->Bool):∀k i j:Nat,i<=j->j-i<=k->i<=yw f k i j/\yw f k i j<=j/\(yw f k i j<j->f (yw f k i j)=true)/\(i<yw f k i j->f (yw f k i j-1)=false)
 |0,i,j,h1,h2=>by
  show i<=i/\i<=j/\(i<j->f i=true)/\(i<i->_);exact⟨Nat.le_refl _,h1,fun h=>by omega,fun h=>by omega⟩
 |k+1,i,j,h1,h2=>by
  have e:yw f (k+1) i j=if i<j then (if f ((i+j) / 2) then yw f k i ((i+j) / 2) else yw f k ((i+j) / 2+1) j) else i:=rfl
  rw[e];split
  ·rename_i h;split
   ·rename_i hf;obtain ⟨a,b,c,d⟩:=xJ f k i ((i+j) / 2) (by omega) (by omega);refine⟨a,by omega,fun _=>?_,d⟩;rcases Nat.lt_or_eq_of_le b with b | b
    ·exact c b
    ·rw[b];exact hf
   ·rename_i hf;obtain ⟨a,b,c,d⟩:=xJ f k ((i+j) / 2+1) j (by omega) (by omega);refine⟨by omega,b,c,fun _=>?_⟩;rcases Nat.lt_or_eq_of_le a with a | a
    ·exact d a
    ·rw[<- a];simpa using hf
  ·exact⟨Nat.le_refl _,h1,fun h=>by omega,fun h=>by omega⟩
theorem YZ (f:Nat->Bool):∀k i j:Nat,i<j->j-i<=k+1->i<=kD f k i j/\kD f k i j<j/\(i<kD f k i j->f (kD f k i j)=true)/\(kD f k i j+1<j->f (kD f k i j+1)=false)
 |0,i,j,h1,h2=>by
  show i<=i/\i<j/\(i<i->_)/\(i+1<j->f (i+1)=false);exact⟨Nat.le_refl _,h1,fun h=>by omega,fun h=>by omega⟩
 |k+1,i,j,h1,h2=>by
  have e:kD f (k+1) i j=if j-i>1 then (if f ((i+j) / 2) then kD f k ((i+j) / 2) j else kD f k i ((i+j) / 2)) else i:=rfl
  rw[e];split
  ·rename_i h;split
   ·rename_i hf;obtain ⟨a,b,c,d⟩:=YZ f k ((i+j) / 2) j (by omega) (by omega);refine⟨by omega,b,fun _=>?_,d⟩;rcases Nat.lt_or_eq_of_le a with a | a
    ·exact c a
    ·rw[<- a];exact hf
   ·rename_i hf;obtain ⟨a,b,c,d⟩:=YZ f k i ((i+j) / 2) (by omega) (by omega);refine⟨a,by omega,c,fun _=>?_⟩;rcases Nat.lt_or_eq_of_le b with b | b
    ·exact d b
    ·have:kD f k i ((i+j) / 2)+1=(i+j) / 2:=b;rw[this];simpa using hf
  ·exact⟨Nat.le_refl _,h1,fun h=>by omega,fun h=>by omega⟩
theorem Dt {L:Nat->Int} {N:Nat} (h:∀m,m<N->L (m+1)<=L m):∀ {a:Nat} (d:Nat),a+d<=N->L (a+d)<=L a
 |_,0,_=>Int.le_refl _
 |a,d+1,hd=>Int.le_trans (h (a+d) (by omega)) (Dt h d (by omega))
theorem Qq {L:Nat->Int} {N:Nat} (h:∀m,m<N->L (m+1)<=L m) {a b:Nat} (hab:a<=b) (hb:b<=N):L b<=L a:=by
 have:=Dt h (a:=a) (b-a) (by omega);rwa[show a+(b-a)=b by omega] at this
theorem H5 {L:Nat->Int} {N:Nat} (h:∀m,m<N->L (m+1)<=L m) {x:Int} (h0:x<=L 0) (k k':Nat) (hk:N<=k) (hk':N<=k') :
  yw (fun a=>decide (L a<x)) (k+1) 0 (N+1)=kD (fun a=>decide (L a>=x)) k' 0 (N+1)+1:=by
 obtain ⟨-,b,c,d⟩:=xJ (fun a=>decide (L a<x)) (k+1) 0 (N+1) (Nat.zero_le _) (by omega);obtain ⟨-,b',c',d'⟩:=YZ (fun a=>decide (L a>=x)) k' 0 (N+1) (by omega) (by omega);generalize yw (fun a=>decide (L a<x)) (k+1) 0 (N+1)=r at *;generalize kD (fun a=>decide (L a>=x)) k' 0 (N+1)=s at *;simp only[decide_eq_true_eq,decide_eq_false_iff_not] at c d c' d';have hs:x<=L s:=by
  rcases Nat.eq_zero_or_pos s with h | h
  ·rw[h];exact h0
  ·exact c' h
 rcases Nat.lt_trichotomy r (s+1) with hr | hr | hr
 ·exfalso;have:=c (by omega);have:=Qq h (show r<=s by omega) (by omega);omega
 ·exact hr
 ·exfalso;have:=d (by omega);have:=d' (by omega);have:=Qq h (show s+1<=r-1 by omega) (by omega);omega
theorem H4 {L H:Nat->Int} {N:Nat} (h:∀m,m<N->L (m+1)<=L m) (hh:∀m,m<N->H (m+1)<=H m) (hl:∀m,m<=N->L m<=H m/\H m<=L m+1) (hs:∀m,m<N->H m=L m->L (m+1)<L m)
  {x:Int} (h0:x<=L 0) (h1:H N<=x) (k k':Nat) (hk:N<=k) (hk':N<=k') :
  yw (fun a=>decide (H a<=x)) k 0 N=if H (kD (fun a=>decide (L a>=x)) k' 0 (N+1))<=x then kD (fun a=>decide (L a>=x)) k' 0 (N+1) else kD (fun a=>decide (L a>=x)) k' 0 (N+1)+1:=by
 obtain ⟨-,b,c,d⟩:=xJ (fun a=>decide (H a<=x)) k 0 N (Nat.zero_le _) (by omega);obtain ⟨-,b',c',d'⟩:=YZ (fun a=>decide (L a>=x)) k' 0 (N+1) (by omega) (by omega);generalize yw (fun a=>decide (H a<=x)) k 0 N=r at *;generalize kD (fun a=>decide (L a>=x)) k' 0 (N+1)=s at *;simp only[decide_eq_true_eq,decide_eq_false_iff_not] at c d c' d';have hxs:x<=L s:=by
  rcases Nat.eq_zero_or_pos s with h | h
  ·rw[h];exact h0
  ·exact c' h
 have hr:H r<=x:=by
  rcases Nat.lt_or_eq_of_le b with b | b
  ·exact c b
  ·rw[b];exact h1
 have hlt:∀m,m<s->x<H m:=by
  intro m hm;rcases Int.lt_or_le x (H m) with h | h2
  ·exact h
  ·exfalso;have g1:=Qq h (show m+1<=s by omega) (by omega);have g2:=hl m (by omega);have g3:=h m (by omega);have g4:=hs m (by omega) (by omega);omega
 have hsr:s<=r:=by
  rcases Nat.lt_or_ge r s with h | h
  ·have:=hlt r h;omega
  ·exact h
 split
 ·rename_i hc;rcases Nat.lt_or_ge s r with h | h
  ·exfalso;have:=d (by omega);have:=Qq hh (show s<=r-1 by omega) (by omega);omega
  ·omega
 ·rename_i hc;have:s≠r:=fun e=>hc (by rw[e];exact hr)
  rcases Nat.lt_or_ge (s+1) r with h2 | h2
  ·exfalso;have u:=d (by omega);have u2:=d' (by omega);have u3:=hl (s+1) (by omega);have:=Qq hh (show s+1<=r-1 by omega) (by omega);omega
  ·omega
/-! The rounded sines grow. -/
def loN (a:Nat):Int:=(yo a).1
def hiN (a:Nat):Int:=if (yo a).2 then (yo a).1 else (yo a).1+1
def Blocks:Prop:=∀j,j<687->Sun.macroB (131072*j)=true
theorem SX (B:Blocks) {a:Nat} (h0:0<a) (h1:a<90000000) (h2:a≠30000000):loN a=G a/\hiN a=G a+1:=by
 have e:yo a=(stN a*100000000 / 85070591730234615865843651857942052864,false):=by
  unfold yo;rw[if_neg (by omega),if_neg h2,if_neg (by omega)]
 have:=HN h0 h1 h2 (Sun.of_all B h0 h1 h2);unfold loN hiN;rw[e];exact⟨this,by rw[if_neg (by simp)];rw[<- this]⟩
theorem zaF {a b:Nat} (h:Sun.F a<=Sun.F b):G a<=G b:=by
 unfold G;exact Int.ediv_le_ediv (by decide) h
theorem Fh {a:Nat} {n:Int} (h:Sun.F a<n*7331559403129590068331208687020758653624765228075687047537011123791632385370343464792392772051104864109916034360063928339045596353810784435313926666640532382851295822842678298180301122938618566718730242107326783353838221723324821405531849499257419595776):G a<n:=Int.ediv_lt_of_lt_mul (by decide) h
theorem Fg {a:Nat} {n:Int} (h:n*7331559403129590068331208687020758653624765228075687047537011123791632385370343464792392772051104864109916034360063928339045596353810784435313926666640532382851295822842678298180301122938618566718730242107326783353838221723324821405531849499257419595776<=Sun.F a):n<=G a:=Int.le_ediv_of_mul_le (by decide) h
theorem z0:loN 0=0/\hiN 0=0:=by unfold loN hiN;decide
theorem z1:loN 30000000=50000000/\hiN 30000000=50000000:=by
 have:yo 30000000=(50000000,true):=by unfold yo;rw[if_neg (by decide),if_pos rfl]
 unfold loN hiN;rw[this];exact⟨rfl,rfl⟩
theorem z2:loN 90000000=100000000/\hiN 90000000=100000000:=by
 have:yo 90000000=(100000000,true):=by unfold yo;rw[if_neg (by decide),if_neg (by decide),if_pos rfl]
 unfold loN hiN;rw[this];exact⟨rfl,rfl⟩
theorem n1:(0:Int)<=G 1:=Fg (by decide +kernel)
theorem n2:G 29999999<50000000:=Fh (by decide +kernel)
theorem n3:(50000000:Int)<=G 30000001:=Fg (by decide +kernel)
theorem n4:G 89999999<100000000:=Fh (by decide +kernel)
theorem Qd (B:Blocks) {a:Nat} (ha:a<90000000):loN a<=loN (a+1)/\hiN a<=hiN (a+1)/\(hiN (a+1)=loN (a+1)->loN a<loN (a+1))/\(hiN a=loN a->hiN a<hiN (a+1)):=by
 obtain ⟨b,hb⟩:∃b,b=a+1:=⟨_,rfl⟩;rw[<- hb];by_cases h0:a=0
 ·have hb:b=1:=by omega
  obtain ⟨g1,g2⟩:=SX B (a:=b) (by omega) (by omega) (by omega);have g3:=n1;rw[<- hb] at g3;rw[h0,z0.1,z0.2,g1,g2];omega
 by_cases h1:a=30000000
 ·have hb:b=30000001:=by omega
  obtain ⟨g1,g2⟩:=SX B (a:=b) (by omega) (by omega) (by omega);have g3:=n3;rw[<- hb] at g3;rw[h1,z1.1,z1.2,g1,g2];omega
 obtain ⟨g1,g2⟩:=SX B (a:=a) (by omega) ha h1;by_cases h2:a=29999999
 ·have hb:b=30000000:=by omega
  have g3:=n2;rw[<- h2] at g3;rw[hb,z1.1,z1.2,g1,g2];omega
 by_cases h3:a=89999999
 ·have hb:b=90000000:=by omega
  have g3:=n4;rw[<- h3] at g3;rw[hb,z2.1,z2.2,g1,g2];omega
 obtain ⟨g3,g4⟩:=SX B (a:=b) (by omega) (by omega) (by omega);have g5:=zaF (Int.le_of_lt (Sun.up_all B ha));rw[<- hb] at g5;rw[g1,g2,g3,g4];omega
def xp (m:Nat):Int:=if m<=90000000 then loN (90000000-m) else -hiN (m-90000000)
def v7 (m:Nat):Int:=if m<=90000000 then hiN (90000000-m) else -loN (m-90000000)
theorem KQ (a:Nat):loN a<=hiN a/\hiN a<=loN a+1:=by
 unfold loN hiN;split<;>omega
theorem Y5 (B:Blocks) {m:Nat} (hm:m<180000000):xp (m+1)<=xp m/\v7 (m+1)<=v7 m/\(v7 m=xp m->xp (m+1)<xp m):=by
 unfold xp v7;by_cases h:m<90000000
 ·rw[if_pos (by omega),if_pos (by omega),if_pos (by omega),if_pos (by omega)];obtain ⟨s1,s2,s3,s4⟩:=Qd B (a:=90000000-(m+1)) (by omega);rw[show 90000000-(m+1)+1=90000000-m by omega] at s1 s2 s3 s4;exact⟨s1,s2,s3⟩
 ·rw[if_neg (show ¬ m+1<=90000000 by omega),if_neg (show ¬ m+1<=90000000 by omega)];obtain ⟨s1,s2,s3,s4⟩:=Qd B (a:=m-90000000) (by omega);rw[show m-90000000+1=m+1-90000000 by omega] at s1 s2 s3 s4;by_cases h2:m=90000000
  ·rw[if_pos (by omega),if_pos (by omega)];have e:m-90000000=0:=by omega
   have e':90000000-m=0:=by omega
   rw[e] at s1 s2 s3 s4;rw[e'];obtain ⟨y,hy⟩:∃y,y=m+1-90000000:=⟨_,rfl⟩;rw[<- hy] at s1 s2 s3 s4 ⊢;obtain ⟨y1,y2⟩:=z0;rw[y1] at s1 s4 ⊢;rw[y2] at s2 s4 ⊢;omega
  ·rw[if_neg (by omega),if_neg (by omega)];omega
theorem Gt (m:Nat):xp m<=v7 m/\v7 m<=xp m+1:=by
 unfold xp v7;split
 ·exact KQ _
 ·have:=KQ (m-90000000);omega
theorem Dv (B:Blocks) {x:Int} (h0:-100000000<=x) (h1:x<=100000000) (k:Nat) (hk:180000000<=k) :
  yw (fun a=>decide (xp a<x)) 180000001 0 180000001=kD (fun a=>decide (xp a>=x)) k 0 180000001+1 /\
  yw (fun a=>decide (v7 a<=x)) 180000000 0 180000000=if v7 (kD (fun a=>decide (xp a>=x)) k 0 180000001)<=x then kD (fun a=>decide (xp a>=x)) k 0 180000001 else kD (fun a=>decide (xp a>=x)) k 0 180000001+1:=by
 have z:xp 0=100000000:=rfl;have z':v7 180000000 = -100000000:=rfl;exact⟨H5 (N:=180000000) (fun m hm=>(Y5 B hm).1) (by rw[z];exact h1) 180000000 k (Nat.le_refl _) hk,
  H4 (L:=xp) (H:=v7) (N:=180000000) (fun m hm=>(Y5 B hm).1) (fun m hm=>(Y5 B hm).2.1) (fun m _=>Gt m) (fun m hm=>(Y5 B hm).2.2) (by rw[z];exact h1) (by rw[z'];exact h0) 180000000 k (Nat.le_refl _) hk⟩
end SunQ
end Go.Proofs.YtkojpnkknehhmaaGreatDoor
