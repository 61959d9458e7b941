/- Plain laws: sums, products and quotients of numbers of two words. Contracts: words: products, quotients. Contracts: angles: sines, products. -/
import Derived.Test.YtkojpnkknehhmaaGreatDoorT
namespace Go.Proofs.YtkojpnkknehhmaaGreatDoor
open Go.IntKind (wrap i64 u64)
open Go.RowKit
theorem Hn (n:Nat):IntKind.u64.wrap (n:Int)=((n % 18446744073709551616:Nat):Int):=by
 show (n:Int) % (2:Int) ^ 64=_;rw[show (2:Int) ^ 64=18446744073709551616 by rfl];omega
theorem jb {n:Nat} (h:n<18446744073709551616):IntKind.u64.wrap (n:Int)=(n:Int):=by rw[Hn,Nat.mod_eq_of_lt h]
theorem Qh (n:Int):IntKind.u64.wrap n=n % 18446744073709551616:=by
 show n % (2:Int) ^ 64=_;rw[show (2:Int) ^ 64=18446744073709551616 by rfl]
theorem bvN (n:Nat):(BitVec.ofInt 64 (n:Int))=BitVec.ofNat 64 n:=by
 apply BitVec.eq_of_toNat_eq;rw[BitVec.toNat_ofInt,BitVec.toNat_ofNat];have:(2:Nat) ^ 64=18446744073709551616:=by rfl
 rw[this];omega
theorem Qp (n:Nat):IntKind.u64.wrap (((BitVec.ofInt 64 (n:Int)) &&& BitVec.ofInt 64 4294967295).toNat:Int)=((n % 4294967296:Nat):Int):=by
 rw[bvN n,show (BitVec.ofInt 64 4294967295)=BitVec.ofNat 64 4294967295 by rfl,BitVec.toNat_and,BitVec.toNat_ofNat,BitVec.toNat_ofNat];rw[show (4294967295 % 2 ^ 64:Nat)=2 ^ 32-1 by rfl,Nat.and_two_pow_sub_one_eq_mod,Hn,show (2:Nat) ^ 32=4294967296 by rfl,show (2:Nat) ^ 64=18446744073709551616 by rfl];omega
theorem orN {a b s:Nat} (hs:s<=64) (ha:a*2 ^ s<18446744073709551616) (hb:b<2 ^ s):IntKind.u64.wrap (((BitVec.ofInt 64 ((a*2 ^ s:Nat):Int)) ||| BitVec.ofInt 64 (b:Int)).toNat:Int)=((a*2 ^ s+b:Nat):Int):=by
 have e64:(18446744073709551616:Nat)=2 ^ (64-s)*2 ^ s:=by rw[<- Nat.pow_add,Nat.sub_add_cancel hs]
 have hlt:a*2 ^ s+b<18446744073709551616:=by
  have h1:(a+1)*2 ^ s<=18446744073709551616:=by
   rw[e64] at ha ⊢;exact Nat.mul_le_mul_right _ (Nat.lt_of_mul_lt_mul_right ha)
  rw[Nat.add_mul] at h1;omega
 rw[bvN,bvN,BitVec.toNat_or,BitVec.toNat_ofNat,BitVec.toNat_ofNat];have e:(2:Nat) ^ 64=18446744073709551616:=rfl;rw[e,Nat.mod_eq_of_lt ha,Nat.mod_eq_of_lt (show b<18446744073709551616 by omega)];have:a*2 ^ s ||| b=a*2 ^ s+b:=by
  rw[<- Nat.shiftLeft_eq,Nat.shiftLeft_add_eq_or_of_lt hb]
 rw[this,jb hlt]
theorem fdN (a b:Nat):(a:Int).fdiv (b:Int)=((a / b:Nat):Int):=(Int.ofNat_fdiv a b).symm
theorem My (a:Nat):(a:Int).fdiv 4294967296=((a / 4294967296:Nat):Int):=fdN a 4294967296
theorem tdN (a b:Nat):(a:Int).tdiv (b:Int)=((a / b:Nat):Int):=(Int.ofNat_tdiv a b).symm
theorem tmN (a b:Nat):(a:Int).tmod (b:Int)=((a % b:Nat):Int):=(Int.ofNat_tmod a b).symm
theorem MX (a b:Nat) (ha:a<18446744073709551616) (hb:b<18446744073709551616) :
  (a / 4294967296*(b / 4294967296)+(a / 4294967296*(b % 4294967296)+a % 4294967296*(b % 4294967296) / 4294967296) / 4294967296 +
   ((a / 4294967296*(b % 4294967296)+a % 4294967296*(b % 4294967296) / 4294967296) % 4294967296+a % 4294967296*(b / 4294967296)) / 4294967296)=a*b / 18446744073709551616 /\
  a / 4294967296*(b / 4294967296)<=18446744065119617025/\a / 4294967296*(b % 4294967296)<=18446744065119617025/\a % 4294967296*(b / 4294967296)<=18446744065119617025/\a % 4294967296*(b % 4294967296)<=18446744065119617025:=by
 generalize hx1:a / 4294967296=x1;generalize hx0:a % 4294967296=x0;generalize hy1:b / 4294967296=y1;generalize hy0:b % 4294967296=y0;have bd:∀u v:Nat,u<=4294967295->v<=4294967295->u*v<=18446744065119617025:=fun u v h1 h2=>Nat.mul_le_mul h1 h2
 have hab:a*b=x1*y1*18446744073709551616+(x1*y0+x0*y1)*4294967296+x0*y0:=by
  have h1:a=x1*4294967296+x0:=by omega
  have h2:b=y1*4294967296+y0:=by omega
  subst h1;subst h2;grind
 have b11:=bd x1 y1 (by omega) (by omega);have b10:=bd x1 y0 (by omega) (by omega);have b01:=bd x0 y1 (by omega) (by omega);have b00:=bd x0 y0 (by omega) (by omega);refine⟨?_,b11,b10,b01,b00⟩;rw[hab];omega
theorem Im {u v z c:Nat} (d1:u=z*(u / z)+u % z) (d2:c=z*(c / z)+c % z) (ec:c=u % z*4294967296+v / 4294967296) :
  u*18446744073709551616+v=z*4294967296*(u / z*4294967296+c / z)+(c % z*4294967296+v % 4294967296):=by
 have e4:z*4294967296*(u / z*4294967296+c / z)=(z*(u / z))*18446744073709551616+(z*(c / z))*4294967296:=by grind
 rw[e4];generalize z*(u / z)=A at *;generalize z*(c / z)=B at *;generalize u % z=R at *;generalize c % z=C at *;omega
theorem Ms {hi lo y s z u v c:Nat} (hy:hi<y) (hlo:lo<18446744073709551616) (hs:s<=64) (hz:y*2 ^ s=z*4294967296) (eu:u=hi*2 ^ s+lo / 2 ^ (64-s)) (ev:v=lo*2 ^ s % 18446744073709551616) (ec:c=(u % z)*4294967296+v / 4294967296) :
  u / z<4294967296/\c / z<4294967296/\(u / z)*4294967296+c / z=(hi*18446744073709551616+lo) / y/\((c % z)*4294967296+v % 4294967296) / 2 ^ s=(hi*18446744073709551616+lo) % y/\0<z/\u<z*4294967296/\c<z*4294967296/\(c % z)*4294967296+v % 4294967296<z*4294967296:=by
 have hps:0<2 ^ s:=Nat.pow_pos (by omega);have hz0:0<z:=by
  rcases Nat.eq_zero_or_pos z with h | h
  ·subst h;have:0<y*2 ^ s:=Nat.mul_pos (by omega) hps;omega
  ·exact h
 have e64:(18446744073709551616:Nat)=2 ^ (64-s)*2 ^ s:=by rw[<- Nat.pow_add,Nat.sub_add_cancel hs]
 have hlo2:lo*2 ^ s=lo / 2 ^ (64-s)*18446744073709551616+v:=by
  rw[ev];have h1:lo*2 ^ s / 18446744073709551616=lo / 2 ^ (64-s):=by rw[e64,Nat.mul_div_mul_right _ _ hps]
  have:=Nat.div_add_mod (lo*2 ^ s) 18446744073709551616;rw[h1] at this;omega
 have hv:v<18446744073709551616:=by rw[ev];exact Nat.mod_lt _ (by omega)
 have hN:(hi*18446744073709551616+lo)*2 ^ s=u*18446744073709551616+v:=by
  rw[eu,Nat.add_mul,hlo2,Nat.add_mul];have:hi*18446744073709551616*2 ^ s=hi*2 ^ s*18446744073709551616:=by rw[Nat.mul_right_comm]
  omega
 have hu:u<z*4294967296:=by
  have h1:(hi*18446744073709551616+lo)*2 ^ s<y*18446744073709551616*2 ^ s:=Nat.mul_lt_mul_of_pos_right (by omega) hps;rw[hN,Nat.mul_right_comm,hz] at h1;omega
 have d1:=Nat.div_add_mod u z;have m1:=Nat.mod_lt u hz0;have d2:=Nat.div_add_mod c z;have m2:=Nat.mod_lt c hz0;have hc:c<z*4294967296:=by
  have:(u % z+1)*4294967296<=z*4294967296:=Nat.mul_le_mul_right _ m1;omega
 obtain ⟨q,hq⟩:∃q,q=(u / z)*4294967296+c / z:=⟨_,rfl⟩;obtain ⟨r,hr⟩:∃r,r=(c % z)*4294967296+v % 4294967296:=⟨_,rfl⟩;have key:(hi*18446744073709551616+lo)*2 ^ s=(y*2 ^ s)*q+r:=by
  rw[hN,hz,hq,hr];exact Im d1.symm d2.symm ec
 have hR:r<y*2 ^ s:=by
  have:(c % z+1)*4294967296<=z*4294967296:=Nat.mul_le_mul_right _ m2;rw[hz];omega
 obtain ⟨r',hr'⟩:2 ^ s ∣ r:=by
  have h1:2 ^ s ∣ (hi*18446744073709551616+lo)*2 ^ s:=Nat.dvd_mul_left _ _;rw[key] at h1;exact(Nat.dvd_add_right (Nat.dvd_trans (Nat.dvd_mul_left _ y) (Nat.dvd_mul_right _ _))).1 h1
 have hN2:hi*18446744073709551616+lo=y*q+r':=by
  apply Nat.eq_of_mul_eq_mul_right hps;rw[key,hr',Nat.add_mul,Nat.mul_right_comm y,Nat.mul_comm (2 ^ s) r']
 have hr'':r'<y:=by
  rw[hr',Nat.mul_comm] at hR;exact Nat.lt_of_mul_lt_mul_right hR
 have f1:q=(hi*18446744073709551616+lo) / y:=by rw[hN2,Nat.mul_add_div (by omega),Nat.div_eq_of_lt hr''];rfl
 have f2:r / 2 ^ s=(hi*18446744073709551616+lo) % y:=by rw[hN2,Nat.mul_add_mod,Nat.mod_eq_of_lt hr'',hr',Nat.mul_div_cancel_left _ hps]
 refine⟨Nat.div_lt_of_lt_mul hu,Nat.div_lt_of_lt_mul hc,hq.symm.trans f1,(congrArg (· / 2 ^ s) hr.symm).trans f2,hz0,hu,hc,?_⟩;have:r<z*4294967296:=Nat.lt_of_lt_of_eq hR hz;rw[hr] at this;exact this
abbrev Sp:SpecF:=wB Tryz.prog
abbrev Fo:FreshF:=jQ Tryz.prog
abbrev So:SeqF:=xv Tryz.prog
theorem zw6 {n:Int} (h:-9223372036854775808<=n/\n<9223372036854775808):IntKind.i64.wrap n=n:=IntWalk.i64_in _ ⟨h.1,by omega⟩
def Dj (x y:Int) (Q:yc):Prop :=
 Q (.tup [AV.int u64 (wrap u64 (wrap u64 (wrap u64 (x.fdiv (4294967296:Int)*y.fdiv (4294967296:Int))+(wrap u64 (wrap u64 (x.fdiv (4294967296:Int)*wrap u64 (↑(BitVec.ofInt (64:Nat) y &&& BitVec.ofInt (64:Nat) (4294967295:Int)).toNat:Int))+(wrap u64 (wrap u64 (↑(BitVec.ofInt (64:Nat) x &&& BitVec.ofInt (64:Nat) (4294967295:Int)).toNat:Int)*wrap u64 (↑(BitVec.ofInt (64:Nat) y &&& BitVec.ofInt (64:Nat) (4294967295:Int)).toNat:Int))).fdiv (4294967296:Int))).fdiv (4294967296:Int))+(wrap u64 (wrap u64 (↑(BitVec.ofInt (64:Nat) (wrap u64 (wrap u64 (x.fdiv (4294967296:Int)*wrap u64 (↑(BitVec.ofInt (64:Nat) y &&& BitVec.ofInt (64:Nat) (4294967295:Int)).toNat:Int))+(wrap u64 (wrap u64 (↑(BitVec.ofInt (64:Nat) x &&& BitVec.ofInt (64:Nat) (4294967295:Int)).toNat:Int)*wrap u64 (↑(BitVec.ofInt (64:Nat) y &&& BitVec.ofInt (64:Nat) (4294967295:Int)).toNat:Int))).fdiv (4294967296:Int))) &&& BitVec.ofInt (64:Nat) (4294967295:Int)).toNat:Int)+wrap u64 (wrap u64 (↑(BitVec.ofInt (64:Nat) x &&& BitVec.ofInt (64:Nat) (4294967295:Int)).toNat:Int)*y.fdiv (4294967296:Int)))).fdiv (4294967296:Int))),.int u64 (wrap u64 (x*y))]) []
theorem zem (x y:Int) (v O) (h:Dj x y (fun r O'=>r=v/\O'=O)):Sp 240 [.int .u64 x,.int .u64 y] [] v O :=
 zS ⟨[0,1,4,5,6,7,8,9,10,11,12,13],[],[],[]⟩ Tryz.func240 Tryz.call240 rfl (by kernel_rfl) h
theorem Ob (a b:Nat) (ha:a<18446744073709551616) (hb:b<18446744073709551616):Sp 240 [.int .u64 a,.int .u64 b] [] (.tup [.int .u64 (a*b / 18446744073709551616:Nat),.int .u64 (a*b % 18446744073709551616:Nat)]) []:=zem a b _ _ (by
 unfold Dj;obtain ⟨h1,b11,b10,b01,b00⟩:=MX a b ha hb;refine⟨?_,rfl⟩;rw[<- Int.natCast_mul a b,Qp a,Qp b,My a,My b,Hn (a*b)];simp only[<- Int.natCast_mul];rw[<- h1];generalize a / 4294967296*(b / 4294967296)=p11 at *;generalize a / 4294967296*(b % 4294967296)=p10 at *;generalize a % 4294967296*(b / 4294967296)=p01 at *;generalize a % 4294967296*(b % 4294967296)=p00 at *;clear h1;rw[jb (n:=p00) (by omega),jb (n:=p10) (by omega),jb (n:=p01) (by omega),jb (n:=p11) (by omega),My p00,<- Int.natCast_add p10,jb (n:=p10+p00 / 4294967296) (by omega),My,Qp,<- Int.natCast_add p11,<- Int.natCast_add _ p01,jb (n:=p11+(p10+p00 / 4294967296) / 4294967296) (by omega),jb (n:=(p10+p00 / 4294967296) % 4294967296+p01) (by omega),My,<- Int.natCast_add,jb (by omega)])
def kC:ByteArray:=ByteArray.mk (([(0:UInt8),(1:UInt8),(2:UInt8),(2:UInt8),(3:UInt8),(3:UInt8),(3:UInt8),(3:UInt8),(4:UInt8),(4:UInt8),(4:UInt8),(4:UInt8),(4:UInt8),(4:UInt8),(4:UInt8),(4:UInt8),(5:UInt8),(5:UInt8),(5:UInt8),(5:UInt8),(5:UInt8),(5:UInt8),(5:UInt8),(5:UInt8),(5:UInt8),(5:UInt8),(5:UInt8),(5:UInt8),(5:UInt8),(5:UInt8),(5:UInt8),(5:UInt8),(6:UInt8),(6:UInt8),(6:UInt8),(6:UInt8),(6:UInt8),(6:UInt8),(6:UInt8),(6:UInt8),(6:UInt8),(6:UInt8),(6:UInt8),(6:UInt8),(6:UInt8),(6:UInt8),(6:UInt8),(6:UInt8),(6:UInt8),(6:UInt8),(6:UInt8),(6:UInt8),(6:UInt8),(6:UInt8),(6:UInt8),(6:UInt8),(6:UInt8),(6:UInt8),(6:UInt8),(6:UInt8),(6:UInt8),(6:UInt8),(6:UInt8),(6:UInt8)].append [(7:UInt8),(7:UInt8),(7:UInt8),(7:UInt8),(7:UInt8),(7:UInt8),(7:UInt8),(7:UInt8),(7:UInt8),(7:UInt8),(7:UInt8),(7:UInt8),(7:UInt8),(7:UInt8),(7:UInt8),(7:UInt8),(7:UInt8),(7:UInt8),(7:UInt8),(7:UInt8),(7:UInt8),(7:UInt8),(7:UInt8),(7:UInt8),(7:UInt8),(7:UInt8),(7:UInt8),(7:UInt8),(7:UInt8),(7:UInt8),(7:UInt8),(7:UInt8),(7:UInt8),(7:UInt8),(7:UInt8),(7:UInt8),(7:UInt8),(7:UInt8),(7:UInt8),(7:UInt8),(7:UInt8),(7:UInt8),(7:UInt8),(7:UInt8),(7:UInt8),(7:UInt8),(7:UInt8),(7:UInt8),(7:UInt8),(7:UInt8),(7:UInt8),(7:UInt8),(7:UInt8),(7:UInt8),(7:UInt8),(7:UInt8),(7:UInt8),(7:UInt8),(7:UInt8),(7:UInt8),(7:UInt8),(7:UInt8),(7:UInt8),(7:UInt8)]).append ([(8:UInt8),(8:UInt8),(8:UInt8),(8:UInt8),(8:UInt8),(8:UInt8),(8:UInt8),(8:UInt8),(8:UInt8),(8:UInt8),(8:UInt8),(8:UInt8),(8:UInt8),(8:UInt8),(8:UInt8),(8:UInt8),(8:UInt8),(8:UInt8),(8:UInt8),(8:UInt8),(8:UInt8),(8:UInt8),(8:UInt8),(8:UInt8),(8:UInt8),(8:UInt8),(8:UInt8),(8:UInt8),(8:UInt8),(8:UInt8),(8:UInt8),(8:UInt8),(8:UInt8),(8:UInt8),(8:UInt8),(8:UInt8),(8:UInt8),(8:UInt8),(8:UInt8),(8:UInt8),(8:UInt8),(8:UInt8),(8:UInt8),(8:UInt8),(8:UInt8),(8:UInt8),(8:UInt8),(8:UInt8),(8:UInt8),(8:UInt8),(8:UInt8),(8:UInt8),(8:UInt8),(8:UInt8),(8:UInt8),(8:UInt8),(8:UInt8),(8:UInt8),(8:UInt8),(8:UInt8),(8:UInt8),(8:UInt8),(8:UInt8),(8:UInt8)].append [(8:UInt8),(8:UInt8),(8:UInt8),(8:UInt8),(8:UInt8),(8:UInt8),(8:UInt8),(8:UInt8),(8:UInt8),(8:UInt8),(8:UInt8),(8:UInt8),(8:UInt8),(8:UInt8),(8:UInt8),(8:UInt8),(8:UInt8),(8:UInt8),(8:UInt8),(8:UInt8),(8:UInt8),(8:UInt8),(8:UInt8),(8:UInt8),(8:UInt8),(8:UInt8),(8:UInt8),(8:UInt8),(8:UInt8),(8:UInt8),(8:UInt8),(8:UInt8),(8:UInt8),(8:UInt8),(8:UInt8),(8:UInt8),(8:UInt8),(8:UInt8),(8:UInt8),(8:UInt8),(8:UInt8),(8:UInt8),(8:UInt8),(8:UInt8),(8:UInt8),(8:UInt8),(8:UInt8),(8:UInt8),(8:UInt8),(8:UInt8),(8:UInt8),(8:UInt8),(8:UInt8),(8:UInt8),(8:UInt8),(8:UInt8),(8:UInt8),(8:UInt8),(8:UInt8),(8:UInt8),(8:UInt8),(8:UInt8),(8:UInt8),(8:UInt8)])).toArray
def zaR (x:Int) (Q:yc):Prop :=
 (decide (x>=4294967296)=true->(decide (x.fdiv ((2:Int) ^ min (Int.toNat (32:Int)) IntKind.u64.bits)>=65536)=true->(decide ((x.fdiv ((2:Int) ^ min (Int.toNat (32:Int)) IntKind.u64.bits)).fdiv ((2:Int) ^ min (Int.toNat (16:Int)) IntKind.u64.bits)>=256)=true->∃c6,((0:Int)<=IntKind.u8.wrap (((x.fdiv (4294967296:Int)).fdiv (65536:Int)).fdiv (256:Int))/\kC[(IntKind.u8.wrap (((x.fdiv (4294967296:Int)).fdiv (65536:Int)).fdiv (256:Int))).toNat]? = some c6)/\Q (iN (wrap i64 ((56:Int)+wrap i64 (↑c6.toNat:Int)))) [])/\(decide ((x.fdiv ((2:Int) ^ min (Int.toNat (32:Int)) IntKind.u64.bits)).fdiv ((2:Int) ^ min (Int.toNat (16:Int)) IntKind.u64.bits)>=256)=false->∃c6,((0:Int)<=IntKind.u8.wrap ((x.fdiv (4294967296:Int)).fdiv (65536:Int))/\kC[(IntKind.u8.wrap ((x.fdiv (4294967296:Int)).fdiv (65536:Int))).toNat]? = some c6)/\Q (iN (wrap i64 ((48:Int)+wrap i64 (↑c6.toNat:Int)))) []))/\(decide (x.fdiv ((2:Int) ^ min (Int.toNat (32:Int)) IntKind.u64.bits)>=65536)=false->(decide (x.fdiv ((2:Int) ^ min (Int.toNat (32:Int)) IntKind.u64.bits)>=256)=true->∃c6,((0:Int)<=IntKind.u8.wrap ((x.fdiv (4294967296:Int)).fdiv (256:Int))/\kC[(IntKind.u8.wrap ((x.fdiv (4294967296:Int)).fdiv (256:Int))).toNat]? = some c6)/\Q (iN (wrap i64 ((40:Int)+wrap i64 (↑c6.toNat:Int)))) [])/\(decide (x.fdiv ((2:Int) ^ min (Int.toNat (32:Int)) IntKind.u64.bits)>=256)=false->∃c6,((0:Int)<=IntKind.u8.wrap (x.fdiv (4294967296:Int))/\kC[(IntKind.u8.wrap (x.fdiv (4294967296:Int))).toNat]? = some c6)/\Q (iN (wrap i64 ((32:Int)+wrap i64 (↑c6.toNat:Int)))) [])))/\(decide (x>=4294967296)=false->(decide (x>=65536)=true->(decide (x.fdiv ((2:Int) ^ min (Int.toNat (16:Int)) IntKind.u64.bits)>=256)=true->∃c6,((0:Int)<=IntKind.u8.wrap ((x.fdiv (65536:Int)).fdiv (256:Int))/\kC[(IntKind.u8.wrap ((x.fdiv (65536:Int)).fdiv (256:Int))).toNat]? = some c6)/\Q (iN (wrap i64 ((24:Int)+wrap i64 (↑c6.toNat:Int)))) [])/\(decide (x.fdiv ((2:Int) ^ min (Int.toNat (16:Int)) IntKind.u64.bits)>=256)=false->∃c6,((0:Int)<=IntKind.u8.wrap (x.fdiv (65536:Int))/\kC[(IntKind.u8.wrap (x.fdiv (65536:Int))).toNat]? = some c6)/\Q (iN (wrap i64 ((16:Int)+wrap i64 (↑c6.toNat:Int)))) []))/\(decide (x>=65536)=false->(decide (x>=256)=true->∃c6,((0:Int)<=IntKind.u8.wrap (x.fdiv (256:Int))/\kC[(IntKind.u8.wrap (x.fdiv (256:Int))).toNat]? = some c6)/\Q (iN (wrap i64 ((8:Int)+wrap i64 (↑c6.toNat:Int)))) [])/\(decide (x>=256)=false->∃c6,((0:Int)<=IntKind.u8.wrap x/\kC[(IntKind.u8.wrap x).toNat]? = some c6)/\Q (iN (wrap i64 ((0:Int)+wrap i64 (↑c6.toNat:Int)))) [])))
theorem I4 (x:Int) (v O) (h:zaR x (fun r O'=>r=v/\O'=O)):Sp 145 [.int .u64 x] [] v O :=
 zS ⟨[0,2,4,8,14],[],[],[]⟩ Tryz.func145 Tryz.call145 rfl (by kernel_rfl) h
theorem G5:(List.range 256).all (fun i=>match kC[i]? with | some c=>decide (i<2 ^ c.toNat) && decide (c.toNat<=8) | none=>false)=true:=by decide +kernel
theorem WG {i:Nat} (h:i<256):∃c:UInt8,kC[i]? = some c/\i<2 ^ c.toNat/\c.toNat<=8:=by
 have h1:=List.all_eq_true.1 G5 i (List.mem_range.2 h);cases hc:kC[i]? with
 |none=>rw[hc] at h1;cases h1
 |some c =>
  rw[hc] at h1;simp only[Bool.and_eq_true,decide_eq_true_eq] at h1;exact⟨c,rfl,h1⟩
theorem DC (a:Nat) (ha:a<4294967296):∃n:Nat,Sp 145 [.int .u64 a] [] (.int .i64 n) []/\n<=32/\a<2 ^ n:=by
 have u8:∀n:Nat,n<256->IntKind.u8.wrap (n:Int)=(n:Int):=fun n h=>by
  show (n:Int) % (2:Int) ^ 8=_;rw[show (2:Int) ^ 8=256 by rfl];omega
 have f16:(a:Int).fdiv 65536=((a / 65536:Nat):Int):=fdN a 65536;have f8:∀n:Nat,(n:Int).fdiv 256=((n / 256:Nat):Int):=fun n=>fdN n 256
 have sh:∀(x c:Nat) (k:Nat),a / 2 ^ k=x->x<2 ^ c->a<2 ^ (k+c):=fun x c k h1 h2=>by
  rw[Nat.pow_add,Nat.mul_comm];exact Nat.lt_mul_of_div_lt (by rw[h1];exact h2) (Nat.pow_pos (by omega))
 have e16:(a:Int).fdiv ((2:Int) ^ min (Int.toNat (16:Int)) IntKind.u64.bits)=((a / 65536:Nat):Int):=f16;by_cases h1:65536<=a
 ·by_cases h2:256<=a / 65536
  ·obtain ⟨c,g1,g2,g3⟩:=WG (i:=a / 65536 / 256) (by omega);refine⟨24+c.toNat,I4 a _ _ ?_,by omega,sh _ _ 24 (by rw[show (2:Nat) ^ 24=65536*256 by rfl,<- Nat.div_div_eq_div_mul]) g2⟩;refine⟨fun h=>(by simp at h;omega),fun _=>⟨fun _=>⟨fun _=>⟨c,⟨?_,?_⟩,?_⟩,fun h=>?_⟩,fun h=>(by simp at h;omega)⟩⟩
   ·rw[f16,f8,u8 _ (by omega)];omega
   ·rw[f16,f8,u8 _ (by omega)];exact g1
   ·rw[zw6 (n:=(c.toNat:Int)) (by omega),zw6 (by omega)];exact⟨rfl,rfl⟩
   ·rw[e16] at h;simp at h;omega
  ·obtain ⟨c,g1,g2,g3⟩:=WG (i:=a / 65536) (by omega);refine⟨16+c.toNat,I4 a _ _ ?_,by omega,sh _ _ 16 rfl g2⟩;refine⟨fun h=>(by simp at h;omega),fun _=>⟨fun _=>⟨fun h=>?_,fun _=>⟨c,⟨?_,?_⟩,?_⟩⟩,fun h=>(by simp at h;omega)⟩⟩
   ·rw[e16] at h;simp at h;omega
   ·rw[f16,u8 _ (by omega)];omega
   ·rw[f16,u8 _ (by omega)];exact g1
   ·rw[zw6 (n:=(c.toNat:Int)) (by omega),zw6 (by omega)];exact⟨rfl,rfl⟩
 ·by_cases h2:256<=a
  ·obtain ⟨c,g1,g2,g3⟩:=WG (i:=a / 256) (by omega);refine⟨8+c.toNat,I4 a _ _ ?_,by omega,sh _ _ 8 rfl g2⟩;refine⟨fun h=>(by simp at h;omega),fun _=>⟨fun h=>(by simp at h;omega),fun _=>⟨fun _=>⟨c,⟨?_,?_⟩,?_⟩,fun h=>(by simp at h;omega)⟩⟩⟩
   ·rw[f8,u8 _ (by omega)];omega
   ·rw[f8,u8 _ (by omega)];exact g1
   ·rw[zw6 (n:=(c.toNat:Int)) (by omega),zw6 (by omega)];exact⟨rfl,rfl⟩
  ·obtain ⟨c,g1,g2,g3⟩:=WG (i:=a) (by omega);refine⟨0+c.toNat,I4 a _ _ ?_,by omega,by rw[Nat.zero_add];exact g2⟩;refine⟨fun h=>(by simp at h;omega),fun _=>⟨fun h=>(by simp at h;omega),fun _=>⟨fun h=>(by simp at h;omega),fun _=>⟨c,⟨?_,?_⟩,?_⟩⟩⟩⟩
   ·rw[u8 _ (by omega)];omega
   ·rw[u8 _ (by omega)];exact g1
   ·rw[zw6 (n:=(c.toNat:Int)) (by omega),zw6 (by omega)];exact⟨rfl,rfl⟩
def zbt (x:Int) (Q:yc):Prop :=
 ∃n0,Sp 145 [AV.int u64 x] [] (iN n0) []/\Q (iN (wrap i64 ((64:Int)-n0))) []
theorem zeo (x:Int) (v O) (h:zbt x (fun r O'=>r=v/\O'=O)):Sp 244 [.int .u64 x] [] v O :=
 zS ⟨[0,2],[],[],[]⟩ Tryz.func244 Tryz.call244 rfl (by kernel_rfl) h
theorem zcj (a:Nat) (ha:a<4294967296):∃s:Nat,Sp 244 [.int .u64 a] [] (.int .i64 s) []/\32<=s/\s<=64/\a*2 ^ s<18446744073709551616:=by
 obtain ⟨n,h1,h2,h3⟩:=DC a ha;refine⟨64-n,zeo a _ _ ⟨_,h1,by rw[zw6 (by omega),show (64:Int)-n=((64-n:Nat):Int) by omega],rfl⟩,by omega,by omega,?_⟩;have e64:(18446744073709551616:Nat)=2 ^ n*2 ^ (64-n):=by rw[<- Nat.pow_add];rw[show n+(64-n)=64 by omega]
 rw[e64];exact Nat.mul_lt_mul_of_pos_right h3 (Nat.pow_pos (by omega))
theorem NG {u v A c:Nat} (hA:A<=u) (hc:c=(u-A)*4294967296+v) (hlt:c<18446744073709551616) :
  IntKind.u64.wrap (wrap u64 (wrap u64 ((u:Int)*4294967296)+(v:Int))-wrap u64 ((A:Int)*4294967296))=(c:Int):=by
 simp only[Qh];omega
theorem KT {a b:Nat} (ha:a<4294967296) (hb:b<4294967296):a*4294967296+b<18446744073709551616:=by omega
theorem NH (q z:Nat):(q:Int)*((z*4294967296:Nat):Int)=((z*q:Nat):Int)*4294967296:=by
 rw[Int.natCast_mul z 4294967296,Int.natCast_mul z q,<- Int.mul_assoc,Int.mul_comm (q:Int) (z:Int)];rfl
theorem Io {a b:Nat} (h:a*4294967296+b<18446744073709551616):IntKind.u64.wrap (wrap u64 ((a:Int)*4294967296)+(b:Int))=((a*4294967296+b:Nat):Int):=by
 simp only[Qh];omega
theorem NI {u q z:Nat} (hu:u<18446744073709551616) (h:q*z<=u) (hq:q<18446744073709551616):IntKind.u64.wrap ((u:Int)-wrap u64 (wrap u64 (q:Int)*(z:Int)))=((u-q*z:Nat):Int):=by
 rw[jb hq,<- Int.natCast_mul,jb (n:=q*z) (by omega),<- Int.natCast_sub h,jb (by omega)]
abbrev WO (hi lo y:Int) (Q:yc) (p1_ p2_ q0_ q1_:Int):Prop :=
 decide (wrap u64 (q0_+(wrap u64 (y*2 ^ min (wrap u64 p1_).toNat IntKind.u64.bits)).fdiv ((2:Int) ^ min (Int.toNat (32:Int)) IntKind.u64.bits))>=4294967296)=true->(0:Int)<=wrap u64 p1_/\Q (.tup [AV.int u64 (wrap u64 (wrap u64 (wrap u64 (p2_-1)*4294967296)+wrap u64 (q1_-1))),.int u64 ((wrap u64 (wrap u64 (wrap u64 (wrap u64 (wrap u64 (wrap u64 (wrap u64 (↑(BitVec.ofInt (64:Nat) (wrap u64 (hi*2 ^ min (wrap u64 p1_).toNat (64:Nat))) ||| BitVec.ofInt (64:Nat) (lo.fdiv ((2:Int) ^ min (wrap u64 ((64:Int)-wrap u64 p1_)).toNat (64:Nat)))).toNat:Int)*(4294967296:Int))+(wrap u64 (lo*2 ^ min (wrap u64 p1_).toNat (64:Nat))).fdiv (4294967296:Int))-wrap u64 (wrap u64 (p2_-1)*wrap u64 (y*2 ^ min (wrap u64 p1_).toNat (64:Nat))))*4294967296)+wrap u64 (↑(BitVec.ofInt (64:Nat) (wrap u64 (lo*2 ^ min (wrap u64 p1_).toNat (64:Nat))) &&& BitVec.ofInt (64:Nat) (4294967295:Int)).toNat:Int))-wrap u64 (wrap u64 (q1_-1)*wrap u64 (y*2 ^ min (wrap u64 p1_).toNat (64:Nat))))).fdiv ((2:Int) ^ min (wrap u64 p1_).toNat (64:Nat)))]) []
abbrev PX (hi lo y:Int) (Q:yc) (p0_ p1_ p2_:Int):Prop :=
 decide (wrap u64 (p0_+(wrap u64 (y*2 ^ min (wrap u64 p1_).toNat IntKind.u64.bits)).fdiv ((2:Int) ^ min (Int.toNat (32:Int)) IntKind.u64.bits))>=4294967296)=true->(wrap u64 (y*2 ^ min (wrap u64 p1_).toNat (64:Nat))).fdiv (4294967296:Int)≠(0:Int)/\∃(I24:Nat->List AV->Prop),(∃m26,I24 m26 [AV.int u64 (wrap u64 (wrap u64 (wrap u64 (wrap u64 (wrap u64 (↑(BitVec.ofInt (64:Nat) (wrap u64 (hi*2 ^ min (wrap u64 p1_).toNat (64:Nat))) ||| BitVec.ofInt (64:Nat) (lo.fdiv ((2:Int) ^ min (wrap u64 ((64:Int)-wrap u64 p1_)).toNat (64:Nat)))).toNat:Int)*(4294967296:Int))+(wrap u64 (lo*2 ^ min (wrap u64 p1_).toNat (64:Nat))).fdiv (4294967296:Int))-wrap u64 (wrap u64 (p2_-1)*wrap u64 (y*2 ^ min (wrap u64 p1_).toNat (64:Nat))))-wrap u64 (wrap u64 ((wrap u64 (wrap u64 (wrap u64 (wrap u64 (↑(BitVec.ofInt (64:Nat) (wrap u64 (hi*2 ^ min (wrap u64 p1_).toNat (64:Nat))) ||| BitVec.ofInt (64:Nat) (lo.fdiv ((2:Int) ^ min (wrap u64 ((64:Int)-wrap u64 p1_)).toNat (64:Nat)))).toNat:Int)*(4294967296:Int))+(wrap u64 (lo*2 ^ min (wrap u64 p1_).toNat (64:Nat))).fdiv (4294967296:Int))-wrap u64 (wrap u64 (p2_-1)*wrap u64 (y*2 ^ min (wrap u64 p1_).toNat (64:Nat))))).tdiv ((wrap u64 (y*2 ^ min (wrap u64 p1_).toNat (64:Nat))).fdiv (4294967296:Int)))*(wrap u64 (y*2 ^ min (wrap u64 p1_).toNat (64:Nat))).fdiv (4294967296:Int)))),.int u64 (wrap u64 ((wrap u64 (wrap u64 (wrap u64 (wrap u64 (↑(BitVec.ofInt (64:Nat) (wrap u64 (hi*2 ^ min (wrap u64 p1_).toNat (64:Nat))) ||| BitVec.ofInt (64:Nat) (lo.fdiv ((2:Int) ^ min (wrap u64 ((64:Int)-wrap u64 p1_)).toNat (64:Nat)))).toNat:Int)*(4294967296:Int))+(wrap u64 (lo*2 ^ min (wrap u64 p1_).toNat (64:Nat))).fdiv (4294967296:Int))-wrap u64 (wrap u64 (p2_-1)*wrap u64 (y*2 ^ min (wrap u64 p1_).toNat (64:Nat))))).tdiv ((wrap u64 (y*2 ^ min (wrap u64 p1_).toNat (64:Nat))).fdiv (4294967296:Int))))])/\∀(m26:Nat) (n27 n28:Int),I24 m26 [AV.int u64 n27,.int u64 n28]->(decide (n28>=4294967296)=true->(WO hi lo y Q p1_ p2_ n27 n28)/\(decide (wrap u64 (n27+(wrap u64 (y*2 ^ min (wrap u64 p1_).toNat IntKind.u64.bits)).fdiv ((2:Int) ^ min (Int.toNat (32:Int)) IntKind.u64.bits))>=4294967296)=false->∃k34,k34<m26/\I24 k34 [AV.int u64 (wrap u64 (n27+(wrap u64 (y*2 ^ min (wrap u64 p1_).toNat (64:Nat))).fdiv (4294967296:Int))),.int u64 (wrap u64 (n28-1))]))/\(decide (n28>=4294967296)=false->(decide (wrap u64 (n28*wrap u64 (↑(BitVec.ofInt IntKind.u64.bits (wrap u64 (y*2 ^ min (wrap u64 p1_).toNat IntKind.u64.bits)) &&& BitVec.ofInt IntKind.u64.bits (4294967295:Int)).toNat:Int))>wrap u64 (wrap u64 ((4294967296:Int)*n27)+wrap u64 (↑(BitVec.ofInt IntKind.u64.bits (wrap u64 (lo*2 ^ min (wrap u64 p1_).toNat IntKind.u64.bits)) &&& BitVec.ofInt IntKind.u64.bits (4294967295:Int)).toNat:Int)))=true->(WO hi lo y Q p1_ p2_ n27 n28)/\(decide (wrap u64 (n27+(wrap u64 (y*2 ^ min (wrap u64 p1_).toNat IntKind.u64.bits)).fdiv ((2:Int) ^ min (Int.toNat (32:Int)) IntKind.u64.bits))>=4294967296)=false->∃k36,k36<m26/\I24 k36 [AV.int u64 (wrap u64 (n27+(wrap u64 (y*2 ^ min (wrap u64 p1_).toNat (64:Nat))).fdiv (4294967296:Int))),.int u64 (wrap u64 (n28-1))]))/\(decide (wrap u64 (n28*wrap u64 (↑(BitVec.ofInt IntKind.u64.bits (wrap u64 (y*2 ^ min (wrap u64 p1_).toNat IntKind.u64.bits)) &&& BitVec.ofInt IntKind.u64.bits (4294967295:Int)).toNat:Int))>wrap u64 (wrap u64 ((4294967296:Int)*n27)+wrap u64 (↑(BitVec.ofInt IntKind.u64.bits (wrap u64 (lo*2 ^ min (wrap u64 p1_).toNat IntKind.u64.bits)) &&& BitVec.ofInt IntKind.u64.bits (4294967295:Int)).toNat:Int)))=false->(0:Int)<=wrap u64 p1_/\Q (.tup [AV.int u64 (wrap u64 (wrap u64 (wrap u64 (p2_-1)*4294967296)+n28)),.int u64 ((wrap u64 (wrap u64 (wrap u64 (wrap u64 (wrap u64 (wrap u64 (wrap u64 (↑(BitVec.ofInt (64:Nat) (wrap u64 (hi*2 ^ min (wrap u64 p1_).toNat (64:Nat))) ||| BitVec.ofInt (64:Nat) (lo.fdiv ((2:Int) ^ min (wrap u64 ((64:Int)-wrap u64 p1_)).toNat (64:Nat)))).toNat:Int)*(4294967296:Int))+(wrap u64 (lo*2 ^ min (wrap u64 p1_).toNat (64:Nat))).fdiv (4294967296:Int))-wrap u64 (wrap u64 (p2_-1)*wrap u64 (y*2 ^ min (wrap u64 p1_).toNat (64:Nat))))*4294967296)+wrap u64 (↑(BitVec.ofInt (64:Nat) (wrap u64 (lo*2 ^ min (wrap u64 p1_).toNat (64:Nat))) &&& BitVec.ofInt (64:Nat) (4294967295:Int)).toNat:Int))-wrap u64 (n28*wrap u64 (y*2 ^ min (wrap u64 p1_).toNat (64:Nat))))).fdiv ((2:Int) ^ min (wrap u64 p1_).toNat (64:Nat)))]) []))
abbrev PY (hi lo y:Int) (Q:yc) (p0_ p1_ p2_ p3_:Int):Prop :=
 decide (wrap u64 (p0_+(wrap u64 (y*2 ^ min (wrap u64 p1_).toNat IntKind.u64.bits)).fdiv ((2:Int) ^ min (Int.toNat (32:Int)) IntKind.u64.bits))>=4294967296)=true->(0:Int)<=wrap u64 p1_/\Q (.tup [AV.int u64 (wrap u64 (wrap u64 (p2_*4294967296)+wrap u64 (p3_-1))),.int u64 ((wrap u64 (wrap u64 (wrap u64 (wrap u64 (wrap u64 (wrap u64 (wrap u64 (↑(BitVec.ofInt (64:Nat) (wrap u64 (hi*2 ^ min (wrap u64 p1_).toNat (64:Nat))) ||| BitVec.ofInt (64:Nat) (lo.fdiv ((2:Int) ^ min (wrap u64 ((64:Int)-wrap u64 p1_)).toNat (64:Nat)))).toNat:Int)*(4294967296:Int))+(wrap u64 (lo*2 ^ min (wrap u64 p1_).toNat (64:Nat))).fdiv (4294967296:Int))-wrap u64 (p2_*wrap u64 (y*2 ^ min (wrap u64 p1_).toNat (64:Nat))))*4294967296)+wrap u64 (↑(BitVec.ofInt (64:Nat) (wrap u64 (lo*2 ^ min (wrap u64 p1_).toNat (64:Nat))) &&& BitVec.ofInt (64:Nat) (4294967295:Int)).toNat:Int))-wrap u64 (wrap u64 (p3_-1)*wrap u64 (y*2 ^ min (wrap u64 p1_).toNat (64:Nat))))).fdiv ((2:Int) ^ min (wrap u64 p1_).toNat (64:Nat)))]) []
def Dk (hi lo y:Int) (Q:yc):Prop :=
 ((y == 0)=true->False)/\((y == 0)=false->(decide (y<=hi)=true->False)/\(decide (y<=hi)=false->((hi == 0)=true->y≠0/\y≠0/\Q (.tup [AV.int u64 (wrap u64 (lo.tdiv y)),.int u64 (lo.tmod y)]) [])/\((hi == 0)=false->∃n6,Sp 244 [AV.int u64 y] [] (iN n6) []/\(0:Int)<=wrap u64 n6/\(0:Int)<=wrap u64 n6/\(0:Int)<=wrap u64 ((64:Int)-wrap u64 n6)/\(0:Int)<=wrap u64 n6/\(wrap u64 (y*2 ^ min (wrap u64 n6).toNat (64:Nat))).fdiv (4294967296:Int)≠(0:Int)/\∃(I13:Nat->List AV->Prop),(∃m15,I13 m15 [AV.int u64 (wrap u64 ((wrap u64 (↑(BitVec.ofInt (64:Nat) (wrap u64 (hi*2 ^ min (wrap u64 n6).toNat (64:Nat))) ||| BitVec.ofInt (64:Nat) (lo.fdiv ((2:Int) ^ min (wrap u64 ((64:Int)-wrap u64 n6)).toNat (64:Nat)))).toNat:Int)).tdiv ((wrap u64 (y*2 ^ min (wrap u64 n6).toNat (64:Nat))).fdiv (4294967296:Int)))),.int u64 (wrap u64 (wrap u64 (↑(BitVec.ofInt (64:Nat) (wrap u64 (hi*2 ^ min (wrap u64 n6).toNat (64:Nat))) ||| BitVec.ofInt (64:Nat) (lo.fdiv ((2:Int) ^ min (wrap u64 ((64:Int)-wrap u64 n6)).toNat (64:Nat)))).toNat:Int)-wrap u64 (wrap u64 ((wrap u64 (↑(BitVec.ofInt (64:Nat) (wrap u64 (hi*2 ^ min (wrap u64 n6).toNat (64:Nat))) ||| BitVec.ofInt (64:Nat) (lo.fdiv ((2:Int) ^ min (wrap u64 ((64:Int)-wrap u64 n6)).toNat (64:Nat)))).toNat:Int)).tdiv ((wrap u64 (y*2 ^ min (wrap u64 n6).toNat (64:Nat))).fdiv (4294967296:Int)))*(wrap u64 (y*2 ^ min (wrap u64 n6).toNat (64:Nat))).fdiv (4294967296:Int))))])/\∀(m15:Nat) (n16 n17:Int),I13 m15 [AV.int u64 n16,.int u64 n17]->(decide (n16>=4294967296)=true->(PX hi lo y Q n17 n6 n16)/\(decide (wrap u64 (n17+(wrap u64 (y*2 ^ min (wrap u64 n6).toNat IntKind.u64.bits)).fdiv ((2:Int) ^ min (Int.toNat (32:Int)) IntKind.u64.bits))>=4294967296)=false->∃k23,k23<m15/\I13 k23 [AV.int u64 (wrap u64 (n16-1)),.int u64 (wrap u64 (n17+(wrap u64 (y*2 ^ min (wrap u64 n6).toNat (64:Nat))).fdiv (4294967296:Int)))]))/\(decide (n16>=4294967296)=false->(decide (wrap u64 (n16*wrap u64 (↑(BitVec.ofInt IntKind.u64.bits (wrap u64 (y*2 ^ min (wrap u64 n6).toNat IntKind.u64.bits)) &&& BitVec.ofInt IntKind.u64.bits (4294967295:Int)).toNat:Int))>wrap u64 (wrap u64 ((4294967296:Int)*n17)+(wrap u64 (lo*2 ^ min (wrap u64 n6).toNat IntKind.u64.bits)).fdiv ((2:Int) ^ min (Int.toNat (32:Int)) IntKind.u64.bits)))=true->(PX hi lo y Q n17 n6 n16)/\(decide (wrap u64 (n17+(wrap u64 (y*2 ^ min (wrap u64 n6).toNat IntKind.u64.bits)).fdiv ((2:Int) ^ min (Int.toNat (32:Int)) IntKind.u64.bits))>=4294967296)=false->∃k25,k25<m15/\I13 k25 [AV.int u64 (wrap u64 (n16-1)),.int u64 (wrap u64 (n17+(wrap u64 (y*2 ^ min (wrap u64 n6).toNat (64:Nat))).fdiv (4294967296:Int)))]))/\(decide (wrap u64 (n16*wrap u64 (↑(BitVec.ofInt IntKind.u64.bits (wrap u64 (y*2 ^ min (wrap u64 n6).toNat IntKind.u64.bits)) &&& BitVec.ofInt IntKind.u64.bits (4294967295:Int)).toNat:Int))>wrap u64 (wrap u64 ((4294967296:Int)*n17)+(wrap u64 (lo*2 ^ min (wrap u64 n6).toNat IntKind.u64.bits)).fdiv ((2:Int) ^ min (Int.toNat (32:Int)) IntKind.u64.bits)))=false->(wrap u64 (y*2 ^ min (wrap u64 n6).toNat (64:Nat))).fdiv (4294967296:Int)≠(0:Int)/\∃(I24:Nat->List AV->Prop),(∃m26,I24 m26 [AV.int u64 (wrap u64 (wrap u64 (wrap u64 (wrap u64 (wrap u64 (↑(BitVec.ofInt (64:Nat) (wrap u64 (hi*2 ^ min (wrap u64 n6).toNat (64:Nat))) ||| BitVec.ofInt (64:Nat) (lo.fdiv ((2:Int) ^ min (wrap u64 ((64:Int)-wrap u64 n6)).toNat (64:Nat)))).toNat:Int)*(4294967296:Int))+(wrap u64 (lo*2 ^ min (wrap u64 n6).toNat (64:Nat))).fdiv (4294967296:Int))-wrap u64 (n16*wrap u64 (y*2 ^ min (wrap u64 n6).toNat (64:Nat))))-wrap u64 (wrap u64 ((wrap u64 (wrap u64 (wrap u64 (wrap u64 (↑(BitVec.ofInt (64:Nat) (wrap u64 (hi*2 ^ min (wrap u64 n6).toNat (64:Nat))) ||| BitVec.ofInt (64:Nat) (lo.fdiv ((2:Int) ^ min (wrap u64 ((64:Int)-wrap u64 n6)).toNat (64:Nat)))).toNat:Int)*(4294967296:Int))+(wrap u64 (lo*2 ^ min (wrap u64 n6).toNat (64:Nat))).fdiv (4294967296:Int))-wrap u64 (n16*wrap u64 (y*2 ^ min (wrap u64 n6).toNat (64:Nat))))).tdiv ((wrap u64 (y*2 ^ min (wrap u64 n6).toNat (64:Nat))).fdiv (4294967296:Int)))*(wrap u64 (y*2 ^ min (wrap u64 n6).toNat (64:Nat))).fdiv (4294967296:Int)))),.int u64 (wrap u64 ((wrap u64 (wrap u64 (wrap u64 (wrap u64 (↑(BitVec.ofInt (64:Nat) (wrap u64 (hi*2 ^ min (wrap u64 n6).toNat (64:Nat))) ||| BitVec.ofInt (64:Nat) (lo.fdiv ((2:Int) ^ min (wrap u64 ((64:Int)-wrap u64 n6)).toNat (64:Nat)))).toNat:Int)*(4294967296:Int))+(wrap u64 (lo*2 ^ min (wrap u64 n6).toNat (64:Nat))).fdiv (4294967296:Int))-wrap u64 (n16*wrap u64 (y*2 ^ min (wrap u64 n6).toNat (64:Nat))))).tdiv ((wrap u64 (y*2 ^ min (wrap u64 n6).toNat (64:Nat))).fdiv (4294967296:Int))))])/\∀(m26:Nat) (n27 n28:Int),I24 m26 [AV.int u64 n27,.int u64 n28]->(decide (n28>=4294967296)=true->(PY hi lo y Q n27 n6 n16 n28)/\(decide (wrap u64 (n27+(wrap u64 (y*2 ^ min (wrap u64 n6).toNat IntKind.u64.bits)).fdiv ((2:Int) ^ min (Int.toNat (32:Int)) IntKind.u64.bits))>=4294967296)=false->∃k34,k34<m26/\I24 k34 [AV.int u64 (wrap u64 (n27+(wrap u64 (y*2 ^ min (wrap u64 n6).toNat (64:Nat))).fdiv (4294967296:Int))),.int u64 (wrap u64 (n28-1))]))/\(decide (n28>=4294967296)=false->(decide (wrap u64 (n28*wrap u64 (↑(BitVec.ofInt IntKind.u64.bits (wrap u64 (y*2 ^ min (wrap u64 n6).toNat IntKind.u64.bits)) &&& BitVec.ofInt IntKind.u64.bits (4294967295:Int)).toNat:Int))>wrap u64 (wrap u64 ((4294967296:Int)*n27)+wrap u64 (↑(BitVec.ofInt IntKind.u64.bits (wrap u64 (lo*2 ^ min (wrap u64 n6).toNat IntKind.u64.bits)) &&& BitVec.ofInt IntKind.u64.bits (4294967295:Int)).toNat:Int)))=true->(PY hi lo y Q n27 n6 n16 n28)/\(decide (wrap u64 (n27+(wrap u64 (y*2 ^ min (wrap u64 n6).toNat IntKind.u64.bits)).fdiv ((2:Int) ^ min (Int.toNat (32:Int)) IntKind.u64.bits))>=4294967296)=false->∃k36,k36<m26/\I24 k36 [AV.int u64 (wrap u64 (n27+(wrap u64 (y*2 ^ min (wrap u64 n6).toNat (64:Nat))).fdiv (4294967296:Int))),.int u64 (wrap u64 (n28-1))]))/\(decide (wrap u64 (n28*wrap u64 (↑(BitVec.ofInt IntKind.u64.bits (wrap u64 (y*2 ^ min (wrap u64 n6).toNat IntKind.u64.bits)) &&& BitVec.ofInt IntKind.u64.bits (4294967295:Int)).toNat:Int))>wrap u64 (wrap u64 ((4294967296:Int)*n27)+wrap u64 (↑(BitVec.ofInt IntKind.u64.bits (wrap u64 (lo*2 ^ min (wrap u64 n6).toNat IntKind.u64.bits)) &&& BitVec.ofInt IntKind.u64.bits (4294967295:Int)).toNat:Int)))=false->(0:Int)<=wrap u64 n6/\Q (.tup [AV.int u64 (wrap u64 (wrap u64 (n16*4294967296)+n28)),.int u64 ((wrap u64 (wrap u64 (wrap u64 (wrap u64 (wrap u64 (wrap u64 (wrap u64 (↑(BitVec.ofInt (64:Nat) (wrap u64 (hi*2 ^ min (wrap u64 n6).toNat (64:Nat))) ||| BitVec.ofInt (64:Nat) (lo.fdiv ((2:Int) ^ min (wrap u64 ((64:Int)-wrap u64 n6)).toNat (64:Nat)))).toNat:Int)*(4294967296:Int))+(wrap u64 (lo*2 ^ min (wrap u64 n6).toNat (64:Nat))).fdiv (4294967296:Int))-wrap u64 (n16*wrap u64 (y*2 ^ min (wrap u64 n6).toNat (64:Nat))))*4294967296)+wrap u64 (↑(BitVec.ofInt (64:Nat) (wrap u64 (lo*2 ^ min (wrap u64 n6).toNat (64:Nat))) &&& BitVec.ofInt (64:Nat) (4294967295:Int)).toNat:Int))-wrap u64 (n28*wrap u64 (y*2 ^ min (wrap u64 n6).toNat (64:Nat))))).fdiv ((2:Int) ^ min (wrap u64 n6).toNat (64:Nat)))]) [])))))))
theorem zen (hi lo y:Int) (v O) (h:Dk hi lo y (fun r O'=>r=v/\O'=O)):Sp 242 [.int .u64 hi,.int .u64 lo,.int .u64 y] [] v O :=
 zS ⟨[0,1,2,6,7,8,9,10,11,12,13,14,15,16,17,18,20,24,27,78,85,113,120],[⟨17,[(15,.int .u64 0),(16,.int .u64 0)],[],[],[],[],[]⟩,⟨24,[(16,.int .u64 0),(18,.int .u64 0)],[],[],[],[],[]⟩],[],[]⟩ Tryz.func242 Tryz.call242 rfl (by kernel_rfl) h
theorem Gq (hi lo y:Nat) (hy:hi<y) (hy2:y<4294967296) (hlo:lo<18446744073709551616):Sp 242 [.int .u64 hi,.int .u64 lo,.int .u64 y] [] (.tup [.int .u64 ((hi*18446744073709551616+lo) / y:Nat),.int .u64 ((hi*18446744073709551616+lo) % y:Nat)]) []:=zen hi lo y _ _ (by
 unfold Dk PY PX WO;refine⟨fun h=>(by simp at h;omega),fun _=>⟨fun h=>(by simp at h;omega),fun _=>⟨fun h=>?_,fun h=>?_⟩⟩⟩
 ·have h:hi=0:=by simpa using h
  subst h;refine⟨by omega,by omega,?_,rfl⟩;rw[tdN,tmN,Nat.zero_mul,Nat.zero_add,jb (Nat.lt_of_le_of_lt (Nat.div_le_self ..) hlo)]
 ·obtain ⟨s,hs,hs1,hs2,hs3⟩:=zcj y hy2;have es:IntKind.u64.wrap (s:Int)=s:=jb (by omega);have emin:min (wrap u64 (s:Int)).toNat 64=s:=by rw[es];simp;omega
  have emin2:min (wrap u64 (s:Int)).toNat IntKind.u64.bits=s:=emin;have e32:∀n:Nat,(n:Int).fdiv ((2:Int) ^ min (Int.toNat (32:Int)) IntKind.u64.bits)=((n / 4294967296:Nat):Int):=fun n=>fdN n 4294967296
  have p2:∀n k:Nat,(n:Int)*(2:Int) ^ k=((n*2 ^ k:Nat):Int):=fun n k=>by push_cast;rfl
  obtain ⟨z,hz⟩:∃z,y*2 ^ s=z*4294967296:=⟨y*2 ^ (s-32),by rw[Nat.mul_assoc,show (4294967296:Nat)=2 ^ 32 by rfl,<- Nat.pow_add,Nat.sub_add_cancel hs1]⟩;have eY:IntKind.u64.wrap ((y:Int)*(2:Int) ^ s)=((z*4294967296:Nat):Int):=by rw[p2,jb hs3,hz]
  obtain ⟨v,ev⟩:∃v,v=lo*2 ^ s % 18446744073709551616:=⟨_,rfl⟩;have eV:IntKind.u64.wrap ((lo:Int)*(2:Int) ^ s)=(v:Int):=by rw[p2,Hn,ev]
  obtain ⟨u,eu⟩:∃u,u=hi*2 ^ s+lo / 2 ^ (64-s):=⟨_,rfl⟩;have hh:hi*2 ^ s<18446744073709551616:=Nat.lt_of_le_of_lt (Nat.mul_le_mul_right _ (Nat.le_of_lt hy)) hs3;have e64:(18446744073709551616:Nat)=2 ^ s*2 ^ (64-s):=by rw[<- Nat.pow_add];rw[show s+(64-s)=64 by omega]
  have eU:IntKind.u64.wrap ((BitVec.ofInt 64 (wrap u64 ((hi:Int)*(2:Int) ^ s)) ||| BitVec.ofInt 64 ((lo:Int).fdiv ((2:Int) ^ min (wrap u64 ((64:Int)-wrap u64 (s:Int))).toNat 64))).toNat:Int)=(u:Int):=by
   rw[es,show (64:Int)-s=((64-s:Nat):Int) by omega,jb (n:=64-s) (by omega),show min ((64-s:Nat):Int).toNat 64=64-s by simp,p2,jb hh,show (2:Int) ^ (64-s)=((2 ^ (64-s):Nat):Int) by push_cast;rfl,fdN,orN hs2 hh ?_,eu];exact Nat.div_lt_of_lt_mul (by rw[Nat.mul_comm,<- e64];exact hlo)
  have hw:(0:Int)<=wrap u64 (s:Int):=by rw[es];omega
  have hw2:(0:Int)<=wrap u64 ((64:Int)-wrap u64 (s:Int)):=by rw[Qh];omega
  obtain ⟨c,ec⟩:∃c,c=(u % z)*4294967296+v / 4294967296:=⟨_,rfl⟩;obtain ⟨k1,k2,k3,k4,k5,k6,k7,k8⟩:=Ms hy hlo hs2 hz eu ev ec;have hv:v<18446744073709551616:=by rw[ev];exact Nat.mod_lt _ (by omega)
  have eA:IntKind.u64.wrap (((BitVec.ofInt IntKind.u64.bits ((z*4294967296:Nat):Int)) &&& BitVec.ofInt IntKind.u64.bits 4294967295).toNat:Int)=0:=(Qp _).trans (by rw[Nat.mul_mod_left];rfl);have no:∀(n m:Int),decide (wrap u64 (n*0)>wrap u64 m)=true->False:=fun n m h=>by
   have h:=zt_ h;rw[Int.mul_zero,Qh,Qh] at h;omega
  have d1:=Nat.div_add_mod u z;have d2:=Nat.div_add_mod c z;have mz1:=Nat.mod_lt u k5;have mz2:=Nat.mod_lt c k5;have hzL:z*4294967296<18446744073709551616:=by rw[<- hz];exact hs3
  have hzW:z*4294967296<=18446744073709551615:=by omega
  clear e64 hh hs3 eu ev hz p2;have q1:u / z*z<=u:=Nat.div_mul_le_self u z;have q2:c / z*z<=c:=Nat.div_mul_le_self c z;have r1:u-u / z*z=u % z:=by rw[Nat.mul_comm] at q1 ⊢;omega
  have r2:c-c / z*z=c % z:=by rw[Nat.mul_comm] at q2 ⊢;omega
  have g1:IntKind.u64.wrap ((u:Int)-wrap u64 (wrap u64 ((u / z:Nat):Int)*(z:Int)))=((u % z:Nat):Int):=by
   rw[NI (by omega) q1 (by omega),r1]
  have g2:IntKind.u64.wrap ((c:Int)-wrap u64 (wrap u64 ((c / z:Nat):Int)*(z:Int)))=((c % z:Nat):Int):=by
   rw[NI (by omega) q2 (by omega),r2]
  have g3:IntKind.u64.wrap (wrap u64 (wrap u64 ((u:Int)*4294967296)+((v / 4294967296:Nat):Int))-wrap u64 (((u / z:Nat):Int)*((z*4294967296:Nat):Int)))=(c:Int):=by
   rw[NH];exact NG (by rw[Nat.mul_comm];exact q1) (by rw[Nat.mul_comm z,r1];exact ec) (Nat.lt_trans k7 hzL)
  have g4:IntKind.u64.wrap (wrap u64 (wrap u64 ((c:Int)*4294967296)+((v % 4294967296:Nat):Int))-wrap u64 (((c / z:Nat):Int)*((z*4294967296:Nat):Int)))=((c % z*4294967296+v % 4294967296:Nat):Int):=by
   rw[NH];exact NG (by rw[Nat.mul_comm];exact q2) (by rw[Nat.mul_comm z,r2]) (Nat.lt_trans k8 hzL)
  refine⟨_,hs,?_⟩;simp only[emin,emin2,eY,eV,eU,My,e32,tdN,Nat.mul_div_cancel _ (show 0<4294967296 by omega),Qp];refine⟨hw,hw,hw2,hw,by omega,fun m vs=>m=0/\vs=[.int .u64 (u / z:Nat),.int .u64 (u % z:Nat)],⟨0,rfl,?_⟩,?_⟩
  ·rw[g1,jb (by omega)]
  rintro m n16 n17 ⟨rfl,hv⟩;cases hv;refine⟨fun h=>(by simp at h;omega),fun _=>⟨fun h=>?_,fun _=>?_⟩⟩
  ·rw[eA] at h;exact(no _ _ h).elim
  simp only[g3,tdN];refine⟨by omega,fun m vs=>m=0/\vs=[.int .u64 (c % z:Nat),.int .u64 (c / z:Nat)],⟨0,rfl,?_⟩,?_⟩
  ·rw[g2,jb (by omega)]
  rintro m n18 n19 ⟨rfl,hv⟩;cases hv;refine⟨fun h=>(by simp at h;omega),fun _=>⟨fun h=>?_,fun _=>⟨hw,?_,by trivial⟩⟩⟩
  ·rw[eA] at h;exact(no _ _ h).elim
  have hp:(2:Int) ^ s=((2 ^ s:Nat):Int):=by push_cast;rfl
  simp only[g4,hp,fdN];rw[k4];have hsum:=Io (KT k1 k2);rw[k3] at hsum;rw[hsum])
theorem uy {n:Nat} (h:n<9223372036854775808):IntKind.i64.wrap (n:Int)=n:=zw6 ⟨by omega,by omega⟩
def fx (x:Nat):TFixed:=⟨((x / 18446744073709551616:Nat):Int),((x % 18446744073709551616:Nat):Int)⟩
theorem KS {D m l d B:Nat} (hd:0<d):(D*(B*B)+m*B+l) / d=(D / d)*(B*B)+((D % d*B+m) / d)*B+((D % d*B+m) % d*B+l) / d:=by
 have d1:=Nat.div_add_mod D d;have d2:=Nat.div_add_mod (D % d*B+m) d;generalize D / d=q0 at *;generalize D % d=r0 at *;generalize (r0*B+m) / d=q1 at *;generalize (r0*B+m) % d=r1 at *;have e:D*(B*B)+m*B+l=d*(q0*(B*B)+q1*B)+(r1*B+l):=by
  have h1:D*(B*B)=d*q0*(B*B)+r0*B*B:=by rw[<- d1];grind
  have h2:r0*B*B+m*B=d*q1*B+r1*B:=by rw[<- Nat.add_mul,<- d2];grind
  grind
 rw[e,Nat.mul_add_div hd]
theorem Q0 {q1 q2:Nat} (h:q2<18446744073709551616):fx (q1*18446744073709551616+q2)=⟨(q1:Int),(q2:Int)⟩:=by
 unfold fx;rw[show (q1*18446744073709551616+q2) / 18446744073709551616=q1 by omega,show (q1*18446744073709551616+q2) % 18446744073709551616=q2 by omega]
theorem Gv {r d m:Nat} (hr:r<d) (hm:m<18446744073709551616):(r*18446744073709551616+m) / d<18446744073709551616:=by
 apply Nat.div_lt_of_lt_mul;have:(r+1)*18446744073709551616<=d*18446744073709551616:=Nat.mul_le_mul_right _ hr;omega
def Db (a:TFixed) (n d:Int) (Q:yc):Prop :=
 ∃n0 n1,Sp 240 [AV.int u64 a.lo,.int u64 n] [] (.tup [AV.int u64 n0,.int u64 n1]) []/\∃n3 n4,Sp 240 [AV.int u64 a.hi,.int u64 n] [] (.tup [AV.int u64 n3,.int u64 n4]) []/\((0:Int)<=(0:Int)/\(0:Int)<=(1:Int))/\∃n7 n8,Sp 242 [AV.int u64 (0:Int),.int u64 (wrap u64 (n3+(↑((n4.toNat+n0.toNat+0) / (18446744073709551616:Nat)):Int))),.int u64 d] [] (.tup [AV.int u64 n7,.int u64 n8]) []/\∃n10 n11,Sp 242 [AV.int u64 n8,.int u64 (↑((n4.toNat+n0.toNat+0) % (18446744073709551616:Nat)):Int),.int u64 d] [] (.tup [AV.int u64 n10,.int u64 n11]) []/\∃n13 n14,Sp 242 [AV.int u64 n11,.int u64 n1,.int u64 d] [] (.tup [AV.int u64 n13,.int u64 n14]) []/\Q (.agg [AV.int u64 n10,.int u64 n13]) []
theorem zec (a:TFixed) (n d:Int) (v O) (h:Db a n d (fun r O'=>r=v/\O'=O)):Sp 230 [a.av,.int .u64 n,.int .u64 d] [] v O :=
 zX ⟨[241],[],[],[],[]⟩ 0 ⟨[0,1,2,3,6,7,8,9,10,11,13],[],[],[]⟩ [] (by exact trivial) Tryz.func230 Tryz.call230 rfl rfl rfl (by kernel_rfl) h
theorem DT (x n d:Nat) (hx:x<340282366920938463463374607431768211456) (hnd:n<=d) (h0:0<d) (hd:d<4294967296):Sp 230 [(fx x).av,.int .u64 n,.int .u64 d] [] (fx (x*n / d)).av []:=zec (fx x) n d _ _ (by
 unfold Db;obtain ⟨h,eh⟩:∃h,h=x / 18446744073709551616:=⟨_,rfl⟩;obtain ⟨l,el⟩:∃l,l=x % 18446744073709551616:=⟨_,rfl⟩;have hh:h<18446744073709551616:=by omega
 have hl:l<18446744073709551616:=by omega
 have m1:=Ob l n hl (by omega);have m2:=Ob h n hh (by omega);have hP:h*n<18446744073709551616*4294967296:=Nat.mul_lt_mul_of_lt_of_le hh (Nat.le_of_lt (Nat.lt_of_le_of_lt hnd hd)) (by omega);have hxn:x*n=h*n*18446744073709551616+l*n:=by
  have:x=h*18446744073709551616+l:=by omega
  rw[this];grind
 obtain ⟨D,eD⟩:∃D,D=h*n / 18446744073709551616+(h*n % 18446744073709551616+l*n / 18446744073709551616) / 18446744073709551616:=⟨_,rfl⟩;obtain ⟨m,em⟩:∃m,m=(h*n % 18446744073709551616+l*n / 18446744073709551616) % 18446744073709551616:=⟨_,rfl⟩;have hR:l*n<18446744073709551616*4294967296:=Nat.mul_lt_mul_of_lt_of_le hl (Nat.le_of_lt (Nat.lt_of_le_of_lt hnd hd)) (by omega);have hxn2:x*n=D*(18446744073709551616*18446744073709551616)+m*18446744073709551616+l*n % 18446744073709551616:=by
  rw[hxn,eD,em];generalize h*n=P at *;generalize l*n=R at *;omega
 have hD:D<18446744073709551616:=by
  rw[eD];generalize h*n=P at *;generalize l*n=R at *;omega
 have hm:m<18446744073709551616:=by rw[em];exact Nat.mod_lt _ (by omega)
 have hr:l*n % 18446744073709551616<18446744073709551616:=Nat.mod_lt _ (by omega);have k1:=Gq 0 D d h0 hd hD;have k2:=Gq (D % d) m d (Nat.mod_lt _ h0) hd hm;have k3:=Gq ((D % d*18446744073709551616+m) % d) (l*n % 18446744073709551616) d (Nat.mod_lt _ h0) hd hr;rw[Nat.zero_mul,Nat.zero_add] at k1;have hdiv:=KS (D:=D) (m:=m) (l:=l*n % 18446744073709551616) (B:=18446744073709551616) h0;rw[<- hxn2] at hdiv;have hle:x*n / d<=x:=Nat.div_le_of_le_mul (by rw[Nat.mul_comm d];exact Nat.mul_le_mul_left _ hnd);have hq0:D / d=0:=by
  rcases Nat.eq_zero_or_pos (D / d) with h | h
  ·exact h
  ·exfalso;have:1*(18446744073709551616*18446744073709551616)<=D / d*(18446744073709551616*18446744073709551616):=Nat.mul_le_mul_right _ h;have:18446744073709551616*18446744073709551616<=x*n / d:=by
    rw[hdiv];exact Nat.le_trans this (Nat.le_trans (Nat.le_add_right _ _) (Nat.le_add_right _ _))
   exact absurd (Nat.lt_of_le_of_lt (Nat.le_trans this hle) hx) (by decide)
 rw[hq0,Nat.zero_mul,Nat.zero_add] at hdiv;have q2:=Gv (d:=d) (Nat.mod_lt (D % d*18446744073709551616+m) h0) hr;have e1:IntKind.u64.wrap (((h*n / 18446744073709551616:Nat):Int)+(((((h*n % 18446744073709551616:Nat):Int).toNat+((l*n / 18446744073709551616:Nat):Int).toNat+0) / 18446744073709551616:Nat):Int))=(D:Int):=by
  rw[Int.toNat_natCast,Int.toNat_natCast,Nat.add_zero,<- Int.natCast_add,<- eD,jb hD]
 have e2:(((((h*n % 18446744073709551616:Nat):Int).toNat+((l*n / 18446744073709551616:Nat):Int).toNat+0) % 18446744073709551616:Nat):Int)=(m:Int):=by
  rw[Int.toNat_natCast,Int.toNat_natCast,Nat.add_zero,<- em]
 refine⟨_,_,by unfold fx;rw[<- el];exact m1,_,_,by unfold fx;rw[<- eh];exact m2,⟨by omega,by omega⟩,_,_,by rw[e1];exact k1,_,_,by rw[e2];exact k2,_,_,k3,?_,rfl⟩;rw[hdiv,Q0 q2];rfl)
def tim (x y:Nat):Nat:=(x / 18446744073709551616*(y / 18446744073709551616)*18446744073709551616+x / 18446744073709551616*(y % 18446744073709551616)+x % 18446744073709551616*(y / 18446744073709551616)) / 4611686018427387904 % 340282366920938463463374607431768211456
theorem Qg (x y:Nat):tim x y<340282366920938463463374607431768211456:=Nat.mod_lt _ (by omega)
theorem D3 (a:Nat):(a:Int).fdiv 4611686018427387904=((a / 4611686018427387904:Nat):Int):=fdN a 4611686018427387904
theorem or2 {H L:Nat} (hL:L<18446744073709551616):IntKind.u64.wrap (((BitVec.ofInt 64 (wrap u64 ((H:Int)*4))) ||| BitVec.ofInt 64 ((L:Int).fdiv 4611686018427387904)).toNat:Int)=((H % 4611686018427387904*4+L / 4611686018427387904:Nat):Int):=by
 have e:IntKind.u64.wrap ((H:Int)*4)=((H % 4611686018427387904*2 ^ 2:Nat):Int):=by
  rw[Qh];omega
 rw[e,D3,orN (by omega) (by omega) (by omega)]
theorem Lq {P A B n0 n1 n3 n4 n6 n7:Nat} (hP:P=n0*18446744073709551616+n1) (hA:A=n3*18446744073709551616+n4) (hB:B=n6*18446744073709551616+n7) (_h1:n1<18446744073709551616) (h4:n4<18446744073709551616) (h7:n7<18446744073709551616) (_h3:n3<18446744073709551616) (_h6:n6<18446744073709551616)
  {N c1 L1 c2 L c3 H:Nat} (eN:N=(n4+n7) % 18446744073709551616) (ec1:c1=(n4+n7) / 18446744073709551616) (eL1:L1=(n1+n3+c1) % 18446744073709551616) (ec2:c2=(n1+n3+c1) / 18446744073709551616) (eL:L=(L1+n6) % 18446744073709551616) (ec3:c3=(L1+n6) / 18446744073709551616) (eH:H=n0+c2+c3) :
  (P*18446744073709551616+A+B) / 4611686018427387904 % 340282366920938463463374607431768211456=(H % 4611686018427387904*4+L / 4611686018427387904)*18446744073709551616+(L % 4611686018427387904*4+N / 4611686018427387904)/\c1<=1/\L<18446744073709551616/\N<18446744073709551616/\L % 4611686018427387904*4+N / 4611686018427387904<18446744073709551616:=by
 have hY:P*18446744073709551616+A+B=(H*18446744073709551616+L)*18446744073709551616+N:=by omega
 have e:(P*18446744073709551616+A+B) / 4611686018427387904=(H*18446744073709551616+L)*4+N / 4611686018427387904:=by omega
 rw[e];have hL:L<18446744073709551616:=by rw[eL];exact Nat.mod_lt _ (by omega)
 have hN:N<18446744073709551616:=by rw[eN];exact Nat.mod_lt _ (by omega)
 have hc:c1<=1:=by clear e hY hP hA hB;omega
 clear e hY hP hA hB eN ec1 eL1 ec2 eL ec3 eH _h1 h4 h7 _h3 _h6;have hlo:L % 4611686018427387904*4+N / 4611686018427387904<18446744073709551616:=by omega
 refine⟨?_,hc,hL,hN,hlo⟩;have e1:(H*18446744073709551616+L)*4+N / 4611686018427387904=340282366920938463463374607431768211456*(H / 4611686018427387904)+((H % 4611686018427387904*4+L / 4611686018427387904)*18446744073709551616+(L % 4611686018427387904*4+N / 4611686018427387904)):=by omega
 rw[e1,Nat.mul_add_mod];exact Nat.mod_eq_of_lt (by omega)
theorem zaB (a b c:Nat):IntKind.u64.wrap (wrap u64 ((a:Int)+(b:Int))+(c:Int))=wrap u64 ((a+b+c:Nat):Int):=by
 simp only[Qh];omega
theorem zaA (a b:Nat):IntKind.u64.wrap ((a:Int)+(b:Int))=wrap u64 ((a+b:Nat):Int):=by
 simp only[Qh];omega
theorem dmW (a:Nat):a=a / 18446744073709551616*18446744073709551616+a % 18446744073709551616:=by omega
theorem m64 (a:Nat):a % 18446744073709551616<18446744073709551616:=Nat.mod_lt _ (by omega)
theorem zah {n:Int} {H L:Nat} (hn:IntKind.u64.wrap n=wrap u64 (H:Int)) (hL:L<18446744073709551616):IntKind.u64.wrap (((BitVec.ofInt 64 (wrap u64 (wrap u64 n*4))) ||| BitVec.ofInt 64 ((L:Int).fdiv 4611686018427387904)).toNat:Int)=((H % 4611686018427387904*4+L / 4611686018427387904:Nat):Int):=by
 rw[hn,show wrap u64 (wrap u64 (H:Int)*4)=wrap u64 ((H:Int)*4) by simp only[Qh];omega];exact or2 hL
def Dc (a b:TFixed) (Q:yc):Prop :=
 ∃n0 n1,Sp 240 [AV.int u64 a.hi,.int u64 b.hi] [] (.tup [AV.int u64 n0,.int u64 n1]) []/\∃n3 n4,Sp 240 [AV.int u64 a.hi,.int u64 b.lo] [] (.tup [AV.int u64 n3,.int u64 n4]) []/\∃n6 n7,Sp 240 [AV.int u64 a.lo,.int u64 b.hi] [] (.tup [AV.int u64 n6,.int u64 n7]) []/\((0:Int)<=(0:Int)/\(0:Int)<=(1:Int))/\((0:Int)<=(↑((n4.toNat+n7.toNat+0) / (18446744073709551616:Nat)):Int)/\(↑((n4.toNat+n7.toNat+0) / (18446744073709551616:Nat)):Int)<=(1:Int))/\((0:Int)<=(0:Int)/\(0:Int)<=(1:Int))/\Q (.agg [AV.int u64 (wrap u64 (↑(BitVec.ofInt (64:Nat) (wrap u64 (wrap u64 (wrap u64 (n0+(↑((n1.toNat+n3.toNat+(↑((n4.toNat+n7.toNat+0) / (18446744073709551616:Nat)):Int).toNat) / (18446744073709551616:Nat)):Int))+(↑(((↑((n1.toNat+n3.toNat+(↑((n4.toNat+n7.toNat+0) / (18446744073709551616:Nat)):Int).toNat) % (18446744073709551616:Nat)):Int).toNat+n6.toNat+0) / (18446744073709551616:Nat)):Int))*4)) ||| BitVec.ofInt (64:Nat) ((↑(((↑((n1.toNat+n3.toNat+(↑((n4.toNat+n7.toNat+0) / (18446744073709551616:Nat)):Int).toNat) % (18446744073709551616:Nat)):Int).toNat+n6.toNat+0) % (18446744073709551616:Nat)):Int).fdiv (4611686018427387904:Int))).toNat:Int)),.int u64 (wrap u64 (↑(BitVec.ofInt (64:Nat) (wrap u64 ((↑(((↑((n1.toNat+n3.toNat+(↑((n4.toNat+n7.toNat+0) / (18446744073709551616:Nat)):Int).toNat) % (18446744073709551616:Nat)):Int).toNat+n6.toNat+0) % (18446744073709551616:Nat)):Int)*(4:Int))) ||| BitVec.ofInt (64:Nat) ((↑((n4.toNat+n7.toNat+0) % (18446744073709551616:Nat)):Int).fdiv (4611686018427387904:Int))).toNat:Int))]) []
theorem zed (a b:TFixed) (v O) (h:Dc a b (fun r O'=>r=v/\O'=O)):Sp 231 [a.av,b.av] [] v O :=
 zX ⟨[241],[],[],[],[]⟩ 0 ⟨[0,1,2,3,4,5,6,7,8,9,10,11,12],[],[],[]⟩ [] (by exact trivial) Tryz.func231 Tryz.call231 rfl rfl rfl (by kernel_rfl) h
theorem Gn (x y:Nat) (hx:x<340282366920938463463374607431768211456) (hy:y<340282366920938463463374607431768211456):Sp 231 [(fx x).av,(fx y).av] [] (fx (tim x y)).av []:=zed (fx x) (fx y) _ _ (by
 unfold Dc;obtain ⟨xh,exh⟩:∃h,h=x / 18446744073709551616:=⟨_,rfl⟩;obtain ⟨xl,exl⟩:∃l,l=x % 18446744073709551616:=⟨_,rfl⟩;obtain ⟨yh,eyh⟩:∃h,h=y / 18446744073709551616:=⟨_,rfl⟩;obtain ⟨yl,eyl⟩:∃l,l=y % 18446744073709551616:=⟨_,rfl⟩;have h1:xh<18446744073709551616:=by omega
 have h2:xl<18446744073709551616:=by omega
 have h3:yh<18446744073709551616:=by omega
 have h4:yl<18446744073709551616:=by omega
 have m1:=Ob xh yh h1 h3;have m2:=Ob xh yl h1 h4;have m3:=Ob xl yh h2 h3;have lt:∀a b:Nat,a<18446744073709551616->b<18446744073709551616->a*b / 18446744073709551616<18446744073709551616:=fun a b ha hb=>Nat.div_lt_of_lt_mul (Nat.mul_lt_mul_of_lt_of_le ha (Nat.le_of_lt hb) (by omega))
 have l2:=lt xh yl h1 h4;have l3:=lt xl yh h2 h3;unfold tim;rw[<- exh,<- exl,<- eyh,<- eyl];have hx':fx x=⟨xh,xl⟩:=by unfold fx;rw[<- exh,<- exl]
 have hy':fx y=⟨yh,yl⟩:=by unfold fx;rw[<- eyh,<- eyl]
 rw[hx',hy'];clear hx' hy' exh exl eyh eyl hx hy;obtain ⟨P,eP⟩:∃P,P=xh*yh:=⟨_,rfl⟩;obtain ⟨A,eA⟩:∃A,A=xh*yl:=⟨_,rfl⟩;obtain ⟨B,eB⟩:∃B,B=xl*yh:=⟨_,rfl⟩;rw[<- eP] at m1 ⊢;rw[<- eA] at m2 l2 ⊢;rw[<- eB] at m3 l3 ⊢;clear eP eA eB;obtain ⟨g1,g2,g3,g4,g5⟩:=Lq (dmW P) (dmW A) (dmW B) (m64 P) (m64 A) (m64 B) l2 l3 rfl rfl rfl rfl rfl rfl rfl;rw[g1,Q0 g5];refine⟨_,_,m1,_,_,m2,_,_,m3,⟨Int.le_refl 0,by decide⟩,?_⟩;simp only[Int.toNat_natCast,Nat.add_zero];refine⟨⟨Int.natCast_nonneg _,Int.ofNat_le.2 g2⟩,⟨Int.le_refl 0,by decide⟩,?_,by trivial⟩;rw[zah (zaB _ _ _) g3,or2 g4];rfl)
theorem II {x y:Nat} (hx:x<340282366920938463463374607431768211456) (hy:y<340282366920938463463374607431768211456) :
  (x+340282366920938463463374607431768211456-y) % 340282366920938463463374607431768211456 / 18446744073709551616=(x / 18446744073709551616+18446744073709551616-y / 18446744073709551616-if x % 18446744073709551616<y % 18446744073709551616 then 1 else 0) % 18446744073709551616 /\
  (x+340282366920938463463374607431768211456-y) % 340282366920938463463374607431768211456 % 18446744073709551616=(x % 18446744073709551616+18446744073709551616-y % 18446744073709551616) % 18446744073709551616 /\
  (((if x % 18446744073709551616<y % 18446744073709551616 then 1 else 0:Nat):Nat):Int)<=1:=by
 have h1:x=x / 18446744073709551616*18446744073709551616+x % 18446744073709551616:=by omega
 have h2:y=y / 18446744073709551616*18446744073709551616+y % 18446744073709551616:=by omega
 have h3:x / 18446744073709551616<18446744073709551616:=Nat.div_lt_of_lt_mul hx;have h4:y / 18446744073709551616<18446744073709551616:=Nat.div_lt_of_lt_mul hy;have h5:=m64 x;have h6:=m64 y;generalize x / 18446744073709551616=a at *;generalize x % 18446744073709551616=b at *;generalize y / 18446744073709551616=c at *;generalize y % 18446744073709551616=d at *;subst h1;subst h2;clear hx hy;by_cases hb:b<d
 ·rw[if_pos hb];refine⟨?_,?_,by decide⟩
  ·by_cases hac:a<=c
   ·rw[Nat.mod_eq_of_lt (by omega)];omega
   ·rw[show a*18446744073709551616+b+340282366920938463463374607431768211456-(c*18446744073709551616+d)=340282366920938463463374607431768211456+(a*18446744073709551616+b-(c*18446744073709551616+d)) by omega,Nat.add_mod_left,Nat.mod_eq_of_lt (by omega)];omega
  ·rw[Nat.mod_mod_of_dvd _ (by decide)];omega
 ·rw[if_neg hb];refine⟨?_,?_,by decide⟩
  ·by_cases hac:a<c
   ·rw[Nat.mod_eq_of_lt (by omega)];omega
   ·rw[show a*18446744073709551616+b+340282366920938463463374607431768211456-(c*18446744073709551616+d)=340282366920938463463374607431768211456+(a*18446744073709551616+b-(c*18446744073709551616+d)) by omega,Nat.add_mod_left,Nat.mod_eq_of_lt (by omega)];omega
  ·rw[Nat.mod_mod_of_dvd _ (by decide)];omega
def Dd (a b:TFixed) (Q:yc):Prop :=
 ((0:Int)<=(0:Int)/\(0:Int)<=(1:Int))/\((0:Int)<=(↑(if a.lo.toNat<b.lo.toNat+Int.toNat (0:Int) then (1:Nat) else (0:Nat)):Int)/\(↑(if a.lo.toNat<b.lo.toNat+Int.toNat (0:Int) then (1:Nat) else (0:Nat)):Int)<=(1:Int))/\Q (.agg [AV.int u64 (↑((a.hi.toNat+18446744073709551616-b.hi.toNat-(↑(if a.lo.toNat<b.lo.toNat+Int.toNat (0:Int) then (1:Nat) else (0:Nat)):Int).toNat) % (18446744073709551616:Nat)):Int),.int u64 (↑((a.lo.toNat+18446744073709551616-b.lo.toNat-0) % (18446744073709551616:Nat)):Int)]) []
theorem zee (a b:TFixed) (v O) (h:Dd a b (fun r O'=>r=v/\O'=O)):Sp 232 [a.av,b.av] [] v O :=
 zX ⟨[243],[],[],[],[]⟩ 0 ⟨[0,1,2,3,4,5,6,7],[],[],[]⟩ [] (by exact trivial) Tryz.func232 Tryz.call232 rfl rfl rfl (by kernel_rfl) h
theorem zcf (x y:Nat) (hx:x<340282366920938463463374607431768211456) (hy:y<340282366920938463463374607431768211456):Sp 232 [(fx x).av,(fx y).av] [] (fx ((x+340282366920938463463374607431768211456-y) % 340282366920938463463374607431768211456)).av []:=zee (fx x) (fx y) _ _ (by
 unfold Dd;simp only[fx,Int.toNat_natCast,show Int.toNat 0=0 from rfl,Nat.add_zero,Nat.sub_zero];obtain ⟨k1,k2,k3⟩:=II hx hy;refine⟨⟨Int.le_refl 0,by decide⟩,⟨Int.natCast_nonneg _,k3⟩,?_,by trivial⟩;unfold TFixed.av TFixed.cs;rw[<- k1,<- k2])
theorem Lt {T q:Nat} (hT:T<1844674407370955161600000000) (hq:q<18446744073709551616):(T / 18446744073709551616+(T % 18446744073709551616+q) / 18446744073709551616) % 4611686018427387904*4+(T % 18446744073709551616+q) % 18446744073709551616 / 4611686018427387904=(T+q) / 4611686018427387904/\(T+q) / 4611686018427387904<9223372036854775808:=by
 have h1:T=T / 18446744073709551616*18446744073709551616+T % 18446744073709551616:=by omega
 have h2:T / 18446744073709551616<100000000:=by omega
 have h3:T % 18446744073709551616<18446744073709551616:=m64 T;generalize T / 18446744073709551616=t1 at *;generalize T % 18446744073709551616=t0 at *;subst h1;have h4:t0+q=(t0+q) / 18446744073709551616*18446744073709551616+(t0+q) % 18446744073709551616:=by omega
 have h5:=m64 (t0+q);have h6:(t0+q) / 18446744073709551616<=1:=by omega
 generalize (t0+q) / 18446744073709551616=c at *;generalize (t0+q) % 18446744073709551616=l at *;have h7:l / 4611686018427387904<4:=Nat.div_lt_of_lt_mul h5;have e:t1*18446744073709551616+t0+q=4611686018427387904*((t1+c)*4)+l:=by omega
 rw[Nat.mod_eq_of_lt (by omega),e,Nat.mul_add_div (by omega)];exact⟨rfl,by clear e h4 hT h5;omega⟩
theorem Ip (a b k:Nat):(a*18446744073709551616+b)*k / 18446744073709551616=a*k+b*k / 18446744073709551616:=by
 rw[Nat.add_mul,Nat.mul_right_comm,Nat.mul_comm (a*k),Nat.mul_add_div (by omega)]
theorem zcA {a:Nat} (h:a<18446744073709551616):a*100000000<1844674407370955161600000000:=by omega
theorem zcv {a:Nat} (h:a<18446744073709551616):a*100000000 / 18446744073709551616<18446744073709551616:=by omega
theorem Gw (T:Nat):T / 85070591730234615865843651857942052864=T / 18446744073709551616 / 4611686018427387904:=by omega
def De (a:TFixed) (Q:yc):Prop :=
 ∃n0 n1,Sp 240 [AV.int u64 a.lo,.int u64 (100000000:Int)] [] (.tup [AV.int u64 n0,.int u64 n1]) []/\∃n3 n4,Sp 240 [AV.int u64 a.hi,.int u64 (100000000:Int)] [] (.tup [AV.int u64 n3,.int u64 n4]) []/\((0:Int)<=(0:Int)/\(0:Int)<=(1:Int))/\Q (iN (wrap i64 (wrap u64 (↑(BitVec.ofInt (64:Nat) (wrap u64 (wrap u64 (n3+(↑((n4.toNat+n0.toNat+0) / (18446744073709551616:Nat)):Int))*4)) ||| BitVec.ofInt (64:Nat) ((↑((n4.toNat+n0.toNat+0) % (18446744073709551616:Nat)):Int).fdiv (4611686018427387904:Int))).toNat:Int)))) []
theorem zef (a:TFixed) (v O) (h:De a (fun r O'=>r=v/\O'=O)):Sp 233 [a.av] [] v O :=
 zX ⟨[241],[],[],[],[]⟩ 0 ⟨[0,1,2,3,5,6,7],[],[],[]⟩ [] (by exact trivial) Tryz.func233 Tryz.call233 rfl rfl rfl (by kernel_rfl) h
theorem zcg (x:Nat) (hx:x<340282366920938463463374607431768211456):Sp 233 [(fx x).av] [] (.int .i64 (x*100000000 / 85070591730234615865843651857942052864:Nat)) []:=zef (fx x) _ _ (by
 unfold De;obtain ⟨xh,exh⟩:∃h,h=x / 18446744073709551616:=⟨_,rfl⟩;obtain ⟨xl,exl⟩:∃l,l=x % 18446744073709551616:=⟨_,rfl⟩;have h1:xh<18446744073709551616:=by omega
 have h2:xl<18446744073709551616:=by omega
 have m1:=Ob xl 100000000 h2 (by omega);have m2:=Ob xh 100000000 h1 (by omega);have hx':fx x=⟨xh,xl⟩:=by unfold fx;rw[<- exh,<- exl]
 rw[hx'];have hxe:x=xh*18446744073709551616+xl:=by omega
 obtain ⟨T,eT⟩:∃T,T=xh*100000000:=⟨_,rfl⟩;obtain ⟨R,eR⟩:∃R,R=xl*100000000:=⟨_,rfl⟩;have hres:x*100000000 / 85070591730234615865843651857942052864=(T+R / 18446744073709551616) / 4611686018427387904:=by
  rw[Gw,hxe,Ip,<- eT,<- eR]
 rw[hres];rw[<- eR] at m1;rw[<- eT] at m2;have h7:T<1844674407370955161600000000:=by rw[eT];exact zcA h1
 have h8:R / 18446744073709551616<18446744073709551616:=by rw[eR];exact zcv h2
 clear hres eT eR hx' hxe exh exl hx;obtain ⟨k1,k2⟩:=Lt h7 h8;refine⟨_,_,m1,_,_,m2,⟨Int.le_refl 0,by decide⟩,?_,rfl⟩;simp only[Int.toNat_natCast,Nat.add_zero];rw[zah (zaA _ _) (m64 _),k1,uy k2])
end Go.Proofs.YtkojpnkknehhmaaGreatDoor
