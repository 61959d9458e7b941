/- The evaluator: what a piece of code does with abstract values, in the order of the text, as a statement in continuation style. Nothing here speaks of one program. -/
import Derived.Test.YtkojpnkknehhmaaGreatDoorGl
import Derived.MapKept
import Derived.DeepKeys3
namespace Go.Proofs.YtkojpnkknehhmaaGreatDoor
open Go.RowKit
abbrev yd (l:List AV):Prop:=l=l
structure Bx where
 ty:TypeId
 arr:Bool
 cs:List AV
def Bx.refs (x:Bx):List Nat:=if x.arr then [] else AV.zd x.cs
def kH:AV->Option (List AV)
 |.iface t (.slc _ es)=>if t=1000000 then some es else none
 |_=>none
def ql:List AV->Option (List AV)
 |[x]=>kH x
 |_=>none
def Bx.mp (x:Bx):Option (List AV):=if x.arr then none else ql x.cs
def vh (cs cs':List AV):Bool:=(ql cs).isSome || (ql cs').isNone
structure St where
 sl:List AV
 bx:List (Option Bx)
def xC {α β:Type} (f:Nat->α->β):Nat->List α->List β
 |_,[]=>[]
 |i,x::r=>f i x::xC f (i+1) r
def UC {α β:Type} (l:List α) (f:Nat->α->β):List β:=xC f 0 l
theorem Pn {α β:Type} (f:Nat->α->β):∀(l:List α) (i j:Nat),(xC f i l)[j]? = (l[j]?).map (f (i+j)):=by
 intro l;induction l with
 |nil=>intro i j;rfl
 |cons x r ih =>
  intro i j;cases j with
  |zero=>rfl
  |succ j=>simp only[xC,List.getElem?_cons_succ,ih];rw[show i+1+j=i+(j+1) by omega]
theorem xe {α β:Type} {l:List α} {f:Nat->α->β} {j:Nat}:(UC l f)[j]? = (l[j]?).map (f j):=by
 unfold UC;rw[Pn,Nat.zero_add]
theorem uG {α β:Type} {l:List α} {f:Nat->α->β}:(UC l f).length=l.length:=by
 have:∀(l:List α) (i:Nat),(xC f i l).length=l.length:=by
  intro l;induction l with
  |nil=>intro i;rfl
  |cons x r ih=>intro i;simp only[xC,List.length_cons,ih]
 exact this l 0
def St.put (σ:St) (d:Option Nat) (v:AV):St :=
 match d with
 |some d=>{ σ with sl:=σ.sl.set d v }
 |none=>σ
def St.box (σ:St) (b:Nat):Option (List AV):=(σ.bx.getD b none).map (·.cs)
def St.z6 (σ:St) (b:Nat):Option (List AV) :=
 match σ.bx.getD b none with
 |some x=>if x.arr then some [] else some x.cs
 |none=>none
def St.zg (σ:St) (b:Nat):Option (List AV) :=
 match σ.bx.getD b none with
 |some x=>if x.mp.isSome then none else if x.arr then some x.cs else if AV.zi x.cs then some (AV.zb x.cs) else none
 |none=>none
def ofV1:Value->AV
 |.bool true=>.tt
 |.bool false=>.ff
 |.int k n=>.lit k n
 |.string s=>.str s
 |.pointer none=>.nilp
 |.slice none 0 0=>.slc 0 []
 |.map none=>.nilmap
 |.nilFunc=>.nilfn
 |.nilIface=>.nilif
 |_=>.undef
def ofV:Value->AV
 |.agg cs=>.agg (cs.toList.map ofV1)
 |v=>ofV1 v
def ev (σ:St):Operand->AV
 |.tmp t=>σ.sl.getD t .undef
 |.const v=>ofV v
 |.global g=>match Up g with
  |some cs=>.eptr cs 0
  |none=>.undef
 |.func f=>.fn f [] []
def AV.zN:AV->Option Bool
 |.tt=>some true
 |.ff=>some false
 |.bool b=>some b
 |_=>none
def AV.zu:AV->Option (IntKind × Int × Bool)
 |.lit k n=>some (k,n,true)
 |.int k n=>some (k,n,false)
 |_=>none
def mkI (k:IntKind) (n:Int) (known:Bool):AV:=if known then .lit k n else .int k n
def mkB (b:Bool) (known:Bool):AV:=if known then (if b then .tt else .ff) else .bool b
def yn (l:List AV):Bool:=l.all AV.one
def yf (P:Program) (t:TypeId):Bool :=
 match P.underlying t with
 |some (.struct _) | some (.array _ _)=>true
 |_=>false
def kx (P:Program) (t:TypeId) (cs:List AV) (off:Nat):Option AV :=
 match P.underlying t with
 |some (.struct _) | some (.array _ _)=>if off+P.cellsOf t<=cs.length then some (.agg ((cs.drop off).take (P.cellsOf t))) else none
 |some _=>cs[off]?
 |none=>none
def qF (cs:List AV) (off:Nat) (vs:List AV):List AV:=cs.take off++(vs++cs.drop (off+vs.length))
def AV.zl:AV->Bool
 |.undef | .tup _=>false
 |_=>true
def wz (P:Program) (t:TypeId):Option AV :=
 match (P.info? t).bind (·.zero) with
 |some z=>if (ofV z).zl then some (ofV z) else none
 |none=>none
def ur (place:Nat->Option (Nat × Nat)):List AV->List (Nat × AV)->Option (List AV)
 |cs,[]=>some cs
 |cs,(i,v)::r =>
  match place i with
  |none=>none
  |some (off,size)=>if v.zl=false\/v.cells.length≠size\/off+v.cells.length>cs.length then none else ur place (qF cs off v.cells) r
def x9 (eq:TypeId->AV->AV->Option Bool) (P:Program) (xs ys:List AV):List Field->Option Bool
 |[]=>some true
 |f::r =>
  if f.name ≠ "_" then
   match kx P f.type xs f.offset,kx P f.type ys f.offset with
   |some a,some b =>
    match eq f.type a b,x9 eq P xs ys r with
    |some x,some y=>some (x && y)
    |_,_=>none
   |_,_=>none
  else x9 eq P xs ys r
def Y7 (eq:AV->AV->Option Bool) (P:Program) (e:TypeId) (xs ys:List AV):Nat->Nat->Option Bool
 |_,0=>some true
 |i,n+1 =>
  match kx P e xs (i*P.cellsOf e),kx P e ys (i*P.cellsOf e) with
  |some a,some b =>
   match eq a b,Y7 eq P e xs ys (i+1) n with
   |some x,some y=>some (x && y)
   |_,_=>none
  |_,_=>none
def AV.zz:AV->Bool
 |.slc 0 []=>true
 |_=>false
def AV.zS:AV->Option Bool
 |.slc 0 []=>some true
 |.slc _ (_::_)=>some false
 |.aslc _ _ (_+1) _ _=>some false
 |_=>none
def eqA (P:Program):Nat->TypeId->AV->AV->Option Bool
 |0,_,_,_=>none
 |d+1,t,x,y =>
  match P.underlying t with
  |some .bool=>match x.zN,y.zN with | some a,some b=>some (a == b) | _,_=>none
  |some (.int _)=>match x.zu,y.zu with | some (k,a,_),some (k',b,_)=>if k=k' then some (a == b) else none | _,_=>none
  |some .string=>match x,y with | .str a,.str b=>some (a.toList == b.toList) | _,_=>none
  |some (.pointer _)=>match x,y with
   |.nilp,.nilp=>some true
   |.nilp,.eptr .. | .nilp,.ref .. | .eptr ..,.nilp | .ref ..,.nilp=>some false
   |_,_=>none
  |some (.interface _)=>match x,y with
   |.nilif,.iface .. | .iface ..,.nilif=>some false
   |_,_=>none
  |some (.func ..)=>match x,y with
   |.nilfn,.nilfn=>some true
   |.nilfn,.fn .. | .fn ..,.nilfn=>some false
   |_,_=>none
  |some (.slice _)=>if x.zz then y.zS else if y.zz then x.zS else none
  |some (.struct fs)=>match x,y with
   |.agg xs,.agg ys=>if P.stoodInHeld t then none else x9 (eqA P d) P xs ys fs.toList
   |_,_=>none
  |some (.array n e)=>match x,y with
   |.agg xs,.agg ys=>if (P.underlying e).isNone then none else Y7 (eqA P d e) P e xs ys 0 n
   |_,_=>none
  |_=>none
def MM:BinOp->Option Bool
 |.eql=>some true
 |.neq=>some false
 |_=>none
def H8 (op:BinOp) (k:IntKind) (a b:Int) (l:Bool):Option AV :=
 match op with
 |.add=>some (mkI k (k.wrap (a+b)) l)
 |.sub=>some (mkI k (k.wrap (a-b)) l)
 |.mul=>some (mkI k (k.wrap (a*b)) l)
 |.and=>some (mkI k (k.wrap (BitVec.ofInt k.bits a &&& BitVec.ofInt k.bits b).toNat) l)
 |.or=>some (mkI k (k.wrap (BitVec.ofInt k.bits a ||| BitVec.ofInt k.bits b).toNat) l)
 |.xor=>some (mkI k (k.wrap (BitVec.ofInt k.bits a ^^^ BitVec.ofInt k.bits b).toNat) l)
 |.andNot=>some (mkI k (k.wrap (BitVec.ofInt k.bits a &&& ~~~ BitVec.ofInt k.bits b).toNat) l)
 |.eql=>some (mkB (a == b) l)
 |.neq=>some (mkB (a != b) l)
 |.lss=>some (mkB (decide (a<b)) l)
 |.leq=>some (mkB (decide (a<=b)) l)
 |.gtr=>some (mkB (decide (a>b)) l)
 |.geq=>some (mkB (decide (a>=b)) l)
 |_=>none
def qR:Operand->Bool
 |.const .nilIface=>true
 |_=>false
def Pb (P:Program) (t:TypeId):Bool :=
 match P.underlying t with
 |some (.interface _)=>true
 |_=>false
def AV.cmp:AV->Bool
 |.tt | .ff | .bool _ | .nilp | .eptr .. | .ref .. | .slc .. | .aslc .. | .fn .. | .nilfn | .iface .. | .nilif=>true
 |_=>false
def J6 (P:Program) (op:BinOp) (t:TypeId) (c:Bool) (x y:AV):Option AV :=
 match x.zu,y.zu with
 |some (k,a,l),some (k',b,l')=>if k=k' then H8 op k a b (l && l') else none
 |_,_ =>
  match x,y,op with
  |.str a,.str b,.eql=>some (.bool (a.toList == b.toList))
  |.str a,.str b,.neq=>some (.bool (!(a.toList == b.toList)))
  |.str a,.str b,.lss=>some (.bool (Op.bytesLess a.toList b.toList))
  |.str a,.str b,.leq=>some (.bool (Op.bytesLess a.toList b.toList || a.toList == b.toList))
  |.str a,.str b,.gtr=>some (.bool (!(Op.bytesLess a.toList b.toList || a.toList == b.toList)))
  |.str a,.str b,.geq=>some (.bool (!Op.bytesLess a.toList b.toList))
  |.str _,.str _,_=>none
  |.nilif,.nilif,op=>if c && Pb P t then (MM op).map fun e=>if e then .tt else .ff else none
  |.agg xs,.agg ys,op =>
   if P.eqGuardType P.depth t then none else
   match MM op,eqA P 12 t (.agg xs) (.agg ys) with
   |some e,some b=>some (.bool (if e then b else !b))
   |_,_=>none
  |x,y,op =>
   if x.cmp && y.cmp then
    match MM op,eqA P 12 t x y with
    |some e,some b=>some (match x.zN,y.zN with | some _,some _=>.bool (if e then b else !b) | _,_=>mkB (if e then b else !b) true)
    |_,_=>none
   else none
def K0 (gt:Bool):AV->List AV->Option AV
 |x,[]=>some x
 |x,y::r =>
  match x.zu,y.zu with
  |some (k,a,l),some (_,b,l')=>K0 gt (mkI k (if gt then (if b>a then b else a) else (if b<a then b else a)) (l && l')) r
  |_,_=>none
def jC (P:Program) (e:Operand->AV):Op->Option AV
 |.move x | .assign x=>some (e x)
 |.pick c a b =>
  match e c with
  |.tt=>some (e a)
  |.ff=>some (e b)
  |.bool x=>match (e a).zN,(e b).zN with
   |some y,some z=>some (.bool (if x then y else z))
   |_,_=>none
  |_=>none
 |.build t ps =>
  match P.info? t,P.underlying t with
  |some it,some (.array _ el) =>
   match it.zero,P.info? el with
   |some z,some ie=>if (ofV z).zl then (ur (fun i=>some (i*ie.size,ie.size)) (ofV z).cells (ps.toList.map fun p=>(p.1,e p.2))).map .agg else none
   |_,_=>none
  |some it,some (.struct fs) =>
   match it.zero,fs.toList.mapM (fun f=>(P.info? f.type).map fun i=>(f.offset,i.size)) with
   |some z,some places=>if (ofV z).zl then (ur (places.toArray[·]?) (ofV z).cells (ps.toList.map fun p=>(p.1,e p.2))).map .agg else none
   |_,_=>none
  |_,_=>none
 |.field t x f =>
  match P.underlying t,e x with
  |some (.struct fs),.agg cs=>match fs[f]? with
   |some fd=>kx P fd.type cs fd.offset
   |none=>none
  |_,_=>none
 |.extract x i=>match e x with | .tup vs=>vs[i]? | _=>none
 |.makeInterface t x=>match P.underlying t with | some (.interface _) | none=>none | some _=>some (.iface t (e x))
 |.makeFunc (.func f) first caps=>some (.fn f (first.toList.map e) (caps.toList.map e))
 |.convert s d x=>match P.underlying s,P.underlying d,(e x).zu with
  |some _,some (.int k),some (_,n,l)=>some (mkI k (k.wrap n) l)
  |_,_,_=>none
 |.unOp .not _ x=>match e x with
  |.tt=>some .ff
  |.ff=>some .tt
  |.bool b=>some (.bool !b)
  |_=>none
 |.unOp .neg _ x=>match (e x).zu with
  |some (k,n,l)=>some (mkI k (k.wrap (0-n)) l)
  |none=>none
 |.unOp .xor _ x=>match (e x).zu with
  |some (k,n,l)=>some (mkI k (k.wrap (BitVec.ofInt k.bits (if k.signed then -1 else k.max) ^^^ BitVec.ofInt k.bits n).toNat) l)
  |none=>none
 |.binOp op t x y _ =>
  match op with
  |.quo | .rem | .shl | .shr=>none
  |_=>J6 P op t (qR x || qR y) (e x) (e y)
 |.nilCheck x=>match e x with
  |.ref b off=>some (.ref b off)
  |.eptr cs off=>some (.eptr cs off)
  |.iface t v=>some (.iface t v)
  |.fn f a b=>some (.fn f a b)
  |_=>none
 |.fieldAddr s x f =>
  match P.underlying s with
  |some (.struct fs)=>match fs[f]? with
   |some fd=>if P.cellsOf fd.type=0\/(P.underlying fd.type).isNone then none else
    match e x with
    |.ref b off=>some (.ref b (off+fd.offset))
    |.eptr cs off=>some (.eptr cs (off+fd.offset))
    |_=>none
   |none=>none
  |_=>none
 |.typeAssert x _ t ok =>
  match P.underlying t,e x with
  |some (.interface _),_ | none,_=>none
  |some _,.iface t' v=>if t'=t then some (if ok then .tup [v,.tt] else v) else (if ok then (wz P t).map fun z=>.tup [z,.ff] else none)
  |some _,.nilif=>if ok then (wz P t).map fun z=>.tup [z,.ff] else none
  |_,_=>none
 |.call c =>
  match c.callee,(c.args.toList.map e) with
  |.builtin .len,[x]=>match (c.argTypes[0]?).bind P.underlying,x with
   |some (.slice _),.slc m es=>some (mkI .i64 es.length (m == 4))
   |some (.slice _),.aslc _ _ len _ _=>some (.int .i64 len)
   |some .string,.str s=>some (.int .i64 s.size)
   |some (.array n _),_=>some (.lit .i64 n)
   |_,_=>none
  |.builtin .max,x::r=>K0 true x r
  |.builtin .min,x::r=>K0 false x r
  |_,_=>none
 |_=>none
def ju (P:Program):Nat->TypeId->(List AV->Prop)->Prop
 |0,_,_=>False
 |d+1,t,K =>
  match P.underlying t with
  |some .bool=>∃b:Bool,K [.bool b]
  |some (.int k)=>∃n:Int,K [.int k n]
  |some .string=>∃s:ByteArray,K [.str s]
  |some (.slice _)=>∃es:List AV,K [.slc 3 es]
  |some (.struct fs)=>fs.toList.foldr (fun f k acc=>ju P d f.type fun cs=>k (acc++cs)) K []
  |some (.array n e)=>Nat.rec (motive:=fun _=>List AV->Prop) K (fun _ k acc=>ju P d e fun cs=>k (acc++cs)) n []
  |_=>∃v:AV,K [v]
def exT (P:Program) (t:TypeId) (K:AV->Prop):Prop :=
 ju P 8 t fun cs=>K (if yf P t then .agg cs else cs.getD 0 .undef)
def Kv (P:Program):List TypeId->(AV->Prop)->Prop
 |[],K=>K (.tup [])
 |[t],K=>exT P t K
 |ts,K=>ts.foldr (fun t k acc=>exT P t fun v=>k (acc++[v])) (fun vs=>K (.tup vs)) []
def br (b:Bool) (A B:Prop):Prop:=(b=true->A)/\(b=false->B)
def Qa (j:Int) (F:Nat->Prop):Nat->Prop
 |0=>True
 |n+1=>(j=(n:Int)->F n)/\Qa j F n
def SS (n:Nat) (i:AV) (F:Nat->Prop):Prop :=
 match i.zu with
 |some (_,j,true)=>if 0<=j/\j<n then F j.toNat else False
 |some (_,j,false)=>(0<=j/\j<n)/\Qa j F n
 |none=>False
def vL (b:Nat) (σ:St):Bool :=
 !(AV.zd σ.sl).contains b && σ.bx.all fun | some x=>!x.refs.contains b | none=>true
def qV (n d:Nat) (x:Bx) (p:AV) (σ:St) (K:St->Prop):Prop :=
 if x.mp.isNone && vL (n+d) { sl:=σ.sl.set d .undef,bx:=σ.bx.set (n+d) none } && !x.refs.contains (n+d) && decide (d<σ.sl.length) && decide (n+d<σ.bx.length) then K { sl:=σ.sl.set d p,bx:=σ.bx.set (n+d) (some x) } else False
def wo (bx:Nat->Option (List AV)):Nat->List Nat->List Nat->List Nat
 |0,_,seen=>seen
 |_+1,[],seen=>seen
 |k+1,b::r,seen =>
  if seen.contains b then wo bx k r seen else
  match bx b with
  |none=>wo bx k r seen
  |some cs=>wo bx k (AV.zd cs++r) (seen++[b])
structure Pat where
 id:Nat
 gen:List (Nat × AV)
 app:List (Nat × TypeId)
 bgen:List (Nat × AV)
 cap:List (Nat × Nat × TypeId):=[]
 yl:List AV:=[]
 un:List (List AV):=[]
structure Ctl where
 keep:List Nat
 loops:List Pat
 joins:List Pat
 fz:List (Nat × Nat)
abbrev yc:=AV->List (List AV)->Prop
abbrev iN (n:Int):AV:=.int .i64 n
abbrev SpecF:=FuncId->List AV->List (List AV)->AV->List (List AV)->Prop
abbrev FreshF:=FuncId->List AV->Nat->List AV->Prop
abbrev SeqF:=FuncId->List AV->List (List AV)->List (List AV)->Prop
structure Ways where
 fr:List FuncId
 alts:List (FuncId × List AV)
 ro:List FuncId:=[]
 il:List (FuncId × Ctl):=[]
 ow:List Nat:=[]
def Ways.zr (w:Ways) (f:FuncId):Option Ctl:=if w.ro.contains 995000000 && w.ro.contains (f+996000000) then none else w.il.lookup f
def Ways.inner (w:Ways):Ways:={ w with ro:=995000000::w.ro }
mutual
def exV:AV->(AV->Prop)->Prop
 |.int k _,K=>∃n:Int,K (.int k n)
 |.bool _,K=>∃b:Bool,K (.bool b)
 |.str _,K=>∃s:ByteArray,K (.str s)
 |.slc _ _,K=>∃es:List AV,K (.slc 3 es)
 |.iface t v,K=>exV v fun v=>K (.iface t v)
 |.agg cs,K=>exL cs fun cs=>K (.agg cs)
 |.tup cs,K=>exL cs fun cs=>K (.tup cs)
 |.fn f a c,K=>exL a fun a=>exL c fun c=>K (.fn f a c)
 |.eptr cs off,K=>exL cs fun cs=>K (.eptr cs off)
 |.undef,K=>∃v:AV,K v
 |v,K=>K v
def exL:List AV->(List AV->Prop)->Prop
 |[],K=>K []
 |x::r,K=>exV x fun v=>exL r fun l=>K (v::l)
end
def exX:AV->(AV->Prop)->Prop
 |.tup [.nilmap,.nilp],K=>∃es:List AV,K (.slc 2 es)
 |.tup [.nilmap,v],K=>K v
 |x,K=>exV x K
def exO:List AV->(AV->Prop)->Prop
 |[],_=>False
 |[x],K=>exX x K
 |x::r,K=>exX x K\/exO r K
def exE (P:Program) (w:Ways) (t:TypeId) (K:AV->Prop):Prop :=
 match w.alts.lookup (1000000+t) with
 |some l=>exO l K
 |none=>exT P t K
def Wf (P:Program) (w:Ways) (f:FuncId) (ts:List TypeId) (K:AV->Prop):Prop :=
 match w.alts.lookup f with
 |some l=>exO l K
 |none=>Kv P ts K
abbrev vZ:=FuncId->List AV->St->(AV->St->Prop)->Prop
structure Specs where
 spec:SpecF
 fresh:FuncId->List AV->Nat->List AV->Prop
 frs:Ways
 inl:vZ
 seq:FuncId->List AV->List (List AV)->List (List AV)->Prop
def zcx (P:Program) (t:TypeId):Bool :=
 match P.underlying t with
 |some (.pointer _) | some (.func ..) | some (.map ..)=>true
 |_=>false
def Pe:List AV->List AV->List AV
 |.eptr c o::r,_::s=>.eptr c o::Pe r s
 |_::r,y::s=>y::Pe r s
 |_,s=>s
def QQ (P:Program) (x:Bx) (K:List AV->Prop):Prop :=
 if (ql x.cs).isSome then ∃es:List AV,K [.iface 1000000 (.slc 3 es)] else
 if zcx P x.ty then match x.cs with
  |[.ref b o]=>K [.ref b o]
  |[.map b]=>K [.map b]
  |[.fn f a c]=>K [.fn f a c]
  |_=>ju P 8 x.ty K
 else ju P 8 x.ty fun l=>K (Pe x.cs l)
def we (k:Nat->Bool) (P:Program):Nat->List Bx->(List (List AV)->Prop)->Prop
 |_,[],K=>K []
 |i,x::r,K=>if k i then we k P (i+1) r fun l=>K (x.cs::l) else QQ P x fun cs=>we k P (i+1) r fun l=>K (cs::l)
def wg (ro:Bool) (k:Nat->Bool) (P:Program) (bs:List Bx) (K:List (List AV)->Prop):Prop:=if ro then K (bs.map (·.cs)) else we k P 0 bs K
def idx (b:Nat):List Nat->Option Nat
 |[]=>none
 |x::r=>if x=b then some 0 else (idx b r).map (·+1)
def yC (B:List Nat) (O:List (List AV)) (kill:List Nat) (bx:List (Option Bx)):List (Option Bx) :=
 UC bx fun b x=>if kill.contains b then none else
  match idx b B with
  |some i=>x.map fun y=>{ y with cs:=AV.zh (B[·]?) (O.getD i []) }
  |none=>x
def q8 (bx:Nat->Option (List AV)):List (Nat × Nat × Nat × Bool)->Prop->Prop
 |[],K=>K
 |(b,m,esz,ag)::r,K=>match bx b with
  |some cs=>if ag then m<=cs.length/\q8 bx r K else if esz=1 then (m<=cs.length/\yn cs=true)/\q8 bx r K else False
  |none=>q8 bx r K
def jG (P:Program) (S:Specs) (n:Nat) (f:FuncId) (args:List AV) (d:Option Nat) (σ:St) (K:St->Prop):Prop :=
 let sn:=σ.zg
 let B:=wo (fun b=>(σ.box b).map (AV.ze sn)) 30 (AV.zd (AV.ze sn args)) []
 match B.mapM (fun b=>σ.bx.getD b none),P.funcs[f]? with
 |some bs,some fn =>
  let asl:=AV.za args++AV.za (bs.flatMap (·.cs))
  let snaps:=asl.map (·.1)
  if bs.any (·.arr) || snaps.any (B.contains ·) || !decide B.Nodup || bs.any (fun x=>!vh x.cs (AV.ze sn x.cs)) then False else
  q8 sn asl <|
  Wf P S.frs f fn.resultTypes.toList fun v=>wg (S.frs.ro.contains f) (fun i=>S.frs.ro.contains (f+1000000*(i+1))) P (bs.map fun x=>{ x with cs:=AV.zb (AV.zh (idx · B) (AV.ze sn x.cs)) }) fun O' =>
   S.spec f (AV.zb (AV.zh (idx · B) (AV.ze sn args))) (bs.map fun x=>AV.zb (AV.zh (idx · B) (AV.ze sn x.cs))) v O' /\
   (if v.plain && O'.all AV.zp then K ({ σ with bx:=yC B O' [] σ.bx }.put d (v.zj (B[·]?)))
    else if snaps.all (n<=·) then K ({ σ with bx:=yC B O' snaps σ.bx }.put d (v.zj (B[·]?))) else False)
 |_,_=>False
def IZ (P:Program) (f:FuncId):Option TypeId :=
 match P.funcs[f]? with
 |some fn=>match fn.resultTypes.toList with
  |[t]=>match P.underlying t with
   |some (.slice e)=>some e
   |_=>none
  |_=>none
 |none=>none
def K7 (ts:List TypeId) (b len:Nat) (K:Nat->AV->Prop):Prop :=
 match ts with
 |[]=>K 0 (.tup [])
 |[_]=>∃m:Nat,m<=len/\K (m+1) (.aslc b 0 m 1 false)
 |_=>False
def GV (P:Program) (f:FuncId):List TypeId:=match P.funcs[f]? with
 |some fn=>fn.resultTypes.toList
 |none=>[0,0]
def MY (P:Program) (S:Specs) (f:FuncId) (b len:Nat) (d:Option Nat) (σ:St) (K:St->Prop):Prop :=
 match σ.bx.getD b none with
 |some x=>if x.arr then K7 (GV P f) b len fun k v=>∃zs zs':List Int,(x.cs=zs.map (AV.int .i64)/\zs.length=len/\0<len/\zs'.length=len/\S.fresh f [.tup (zs.map (AV.int .i64))] k (zs'.map (AV.int .i64))) /\
   K ({ σ with bx:=σ.bx.set b (some { x with cs:=zs'.map (AV.int .i64) }) }.put d v) else False
 |none=>False
def Us:List AV->Option (Nat × Nat)
 |[.aslc b 0 len 1 false]=>some (b,len)
 |_=>none
def Pc:AV->Bool
 |.tup _=>true
 |_=>false
def Pt:List AV->Bool
 |[]=>true
 |x::_=>!Pc x
def AV.zw:AV->AV
 |.slc 0 []=>.slc 0 []
 |v=>v.norm
def Y3 (P:Program) (S:Specs) (n:Nat) (f:FuncId) (args:List AV) (d:Option Nat) (σ:St) (K:St->Prop):Prop :=
 match Us args with
 |some (b,len)=>MY P S f b len d σ K
 |none =>
 match d,IZ P f with
 |some d,some e =>
  if AV.zi args && Pt args then ∃es:List AV,S.fresh f (args.map AV.zw) (P.cellsOf e) es /\
   qV n d ⟨e,true,es.flatMap AV.cells⟩ (.aslc (n+d) 0 es.length (P.cellsOf e) (yf P e)) σ K
  else False
 |_,_=>False
def XG (P:Program) (f:FuncId):Option Bool :=
 match P.funcs[f]? with
 |some fn=>if fn.body.isNone && fn.origin == "" then (if fn.name == "math/bits.Add64" then some true else if fn.name == "math/bits.Sub64" then some false else none) else none
 |none=>none
def SC (add:Bool) (x y c:Int):AV :=
 if add then .tup [.int .u64 (((x.toNat+y.toNat+c.toNat) % 18446744073709551616:Nat):Int),.int .u64 (((x.toNat+y.toNat+c.toNat) / 18446744073709551616:Nat):Int)]
 else .tup [.int .u64 (((x.toNat+18446744073709551616-y.toNat-c.toNat) % 18446744073709551616:Nat):Int),.int .u64 ((if x.toNat<y.toNat+c.toNat then 1 else 0:Nat):Int)]
def ui (P:Program) (S:Specs) (n:Nat) (f:FuncId) (args:List AV) (d:Option Nat) (σ:St) (K:St->Prop):Prop :=
 match XG P f with
 |some b=>match args with
  |[x,y,c]=>match x.zu,y.zu,c.zu with
   |some (.u64,x,_),some (.u64,y,_),some (.u64,c,_)=>(0<=c/\c<=1)/\K (σ.put d (SC b x y c))
   |_,_,_=>False
  |_=>False
 |none=>Y3 P S n f args d σ K
def qh (bx:List (Option Bx)) (b:Nat):Bool:=(bx.getD b none).isSome
def yp (σ:St):Bool:=(AV.zd σ.sl).all (qh σ.bx) && σ.bx.all fun
 |some x=>x.refs.all (qh σ.bx)
 |none=>true
def qA (n:Nat) (bx bx1:List (Option Bx)):Bool:=(List.range n).all (fun b=>qh bx b || !qh bx1 b) && bx1.all fun
 |some x=>x.refs.all (qh bx1)
 |none=>true
def vR (P:Program) (S:Specs) (n:Nat) (f:FuncId) (args:List AV) (d:Option Nat) (σ:St) (K:St->Prop):Prop :=
 if (S.frs.zr f).isSome then S.inl f args σ (fun v τ=>if qA n σ.bx τ.bx && (AV.refs v).all (qh τ.bx) then K (τ.put d v) else False)
 else jG P S n f args d σ K
def yk (k:Nat) (es:List AV):Prop:=∀v∈es,v.cells.length=k
def qz (σ:St) (k:Nat) (x:AV) (K:Nat->List AV->Prop):Prop :=
 match x with
 |.slc _ es=>yk k es/\K es.length (es.flatMap AV.cells)
 |.aslc b off len esz _=>match σ.zg b with
  |some cs=>(esz=k/\off+len*esz<=cs.length)/\K len ((cs.drop off).take (len*esz))
  |none=>False
 |_=>False
def S2 (P:Program) (t:TypeId) (name:String):Option FuncId :=
 match P.info? t,P.underlying t with
 |some i,some u=>match i.methods.find? (·.name == name) with
  |some m=>if m.path.isEmpty then match m.func,u with
    |some (f,true),.pointer _=>some f
    |some (_,false),.pointer _=>none
    |some (f,false),_=>some f
    |_,_=>none
   else none
  |none=>none
 |_,_=>none
def vT (P:Program) (t:TypeId) (σ:St) (a:AV) (K:AV->Prop):Prop :=
 match a with
 |.eptr cs off=>match kx P t cs off with | some v=>K v | none=>False
 |.ref b off=>match σ.bx.getD b none with
  |some x =>
   if x.mp.isSome then False else
   if x.arr then exT P t fun v=>(kx P t x.cs off).map AV.norm=some v/\K v
   else match kx P t x.cs off with | some v=>K v | none=>False
  |none=>False
 |_=>False
def xW (P:Program) (t:TypeId) (σ:St) (a v:AV) (K:St->Prop):Prop :=
 match a with
 |.ref b off=>match σ.bx.getD b none with
  |some x =>
   if v.cells.length=P.cellsOf t/\yn v.cells/\(P.underlying t).isSome then
    if x.mp.isSome then False else
    if x.arr then if v.tree then off+v.cells.length<=x.cs.length/\K { σ with bx:=σ.bx.set b (some { x with cs:=qF x.cs off v.norm.cells }) } else False
    else if decide (off+v.cells.length<=x.cs.length) && (ql (qF x.cs off v.cells)).isNone then K { σ with bx:=σ.bx.set b (some { x with cs:=qF x.cs off v.cells }) } else False
   else False
  |none=>False
 |_=>False
def bnd (o:Option AV) (d:Int):Option (IntKind × Int × Bool) :=
 match o with
 |some v=>v.zu
 |none=>some (.i64,d,true)
def kA (P:Program) (t:TypeId) (σ:St) (x:AV) (lo hi mx:Option AV) (K:AV->Prop):Prop :=
 match P.underlying t with
 |some (.slice e) =>
  if (P.underlying e).isNone then False else
  match x with
  |.slc _ es =>
   match bnd lo 0,bnd hi es.length,mx with
   |some (_,l,_),some (_,h,_),none =>
    match lo with
    |none=>(0<=h/\h<=es.length)/\K (.slc 3 (es.take h.toNat))
    |some _=>(0<=l/\l<=h/\h<=es.length/\yk (P.cellsOf e) es)/\K (.slc 3 ((es.drop l.toNat).take (h.toNat-l.toNat)))
   |some (_,_l,_),some (_,h,_),some m=>match m.zu,lo,hi with
    |some (_,m,_),none,some _=>(0<=h/\h=m/\h<=es.length)/\K (.slc 2 (es.take h.toNat))
    |_,_,_=>False
   |_,_,_=>False
  |.aslc b off len esz ag =>
   match bnd lo 0,bnd hi len,mx with
   |some (_,l,_),some (_,h,_),none=>(0<=l/\l<=h/\h<=len/\l<len/\esz=P.cellsOf e)/\K (.aslc b (off+l.toNat*esz) (h.toNat-l.toNat) esz ag)
   |_,_,_=>False
  |_=>False
 |some (.array n e) =>
  match bnd lo 0,bnd hi n,mx with
  |some (_,l,true),some (_,h,true),none =>
   if 0<=l/\l<=h/\h<=n/\(P.underlying e).isSome/\l<n then
    match x with
    |.ref b off=>match σ.box b with
     |some cs=>if off+n*P.cellsOf e<=cs.length then K (.aslc b (off+l.toNat*P.cellsOf e) (h.toNat-l.toNat) (P.cellsOf e) (yf P e)) else False
     |none=>False
    |_=>False
   else False
  |_,_,_=>False
 |some .string =>
  match x with
  |.str s =>
   match bnd lo 0,bnd hi s.size,mx with
   |some (_,l,_),some (_,h,_),none=>(0<=l/\l<=h/\h<=s.size)/\K (.str (s.extract l.toNat h.toNat))
   |_,_,_=>False
  |_=>False
 |_=>False
def Ub (P:Program) (w:Ways) (kn:Bool) (e:TypeId) (es:List AV) (j:Int) (K:AV->Prop):Prop :=
 if kn then (match es[j.toNat]? with
  |some v=>K v
  |none=>False) else exE P w e K
def qQ (P:Program) (w:Ways) (t:TypeId) (x i:AV) (K:AV->Prop):Prop :=
 match P.underlying t with
 |some (.array n e) =>
  if (P.underlying e).isNone then False else
  match x with
  |.ref b off=>SS n i fun j=>K (.ref b (off+j*P.cellsOf e))
  |.eptr cs off=>SS n i fun j=>K (.eptr cs (off+j*P.cellsOf e))
  |_=>False
 |some (.slice e) =>
  if (P.underlying e).isNone then False else
  match x,i.zu with
  |.slc m es,some (_,j,kn)=>Ub P w (m == 4 && kn) e es j fun v=>(0<=j/\v.cells.length=P.cellsOf e/\es[j.toNat]? = some v)/\K (.eptr v.cells 0)
  |.aslc b off len esz _,some (_,j,_)=>(0<=j/\j<len/\esz=P.cellsOf e)/\K (.ref b (off+j.toNat*esz))
  |_,_=>False
 |_=>False
def uz (P:Program) (t:TypeId) (x i:AV) (K:AV->Prop):Prop :=
 match P.underlying t with
 |some (.array n e) =>
  match x with
  |.agg cs=>SS n i fun j=>match kx P e cs (j*P.cellsOf e) with | some v=>K v | none=>False
  |_=>False
 |some .string =>
  match x,i.zu with
  |.str s,some (_,j,_)=>∃c:UInt8,(0<=j/\s[j.toNat]? = some c)/\K (.int .u8 c.toNat)
  |_,_=>False
 |_=>False
def jR (P:Program) (n:Nat) (ts:List TypeId) (s x:AV) (d:Nat) (σ:St) (K:St->Prop):Prop :=
 match ts with
 |[t,t2] =>
  match P.underlying t,P.underlying t2 with
  |some (.slice e),some (.slice _) =>
   if P.cellsOf e=0\/(P.underlying e).isNone\/((wz P e).map fun z=>z.cells.length)≠some (P.cellsOf e) then False else
   qz σ (P.cellsOf e) x fun nx cx =>
    match s with
    |.slc 0 []=>((nx+512)*(5*P.bytesOf e+1)<=2 ^ 50/\yn cx=true) /\
      qV n d ⟨e,true,cx⟩ (.aslc (n+d) 0 nx (P.cellsOf e) (yf P e)) σ K
    |.slc 2 es=>((es=[]\/0<nx)/\(es.length+nx+512)*(5*P.bytesOf e+1)<=2 ^ 50/\yk (P.cellsOf e) es/\yn cx=true/\yn (es.flatMap AV.cells)=true) /\
      qV n d ⟨e,true,es.flatMap AV.cells++cx⟩ (.aslc (n+d) 0 (es.length+nx) (P.cellsOf e) (yf P e)) σ K
    |.aslc b 0 len esz ag=>match σ.bx.getD b none with
     |some bx =>
      if bx.arr && decide (esz=P.cellsOf e) && decide (b≠n+d) then
       (bx.cs.length=len*esz/\(len+nx+512)*(5*P.bytesOf e+1)<=2 ^ 50/\yn cx=true/\yn bx.cs=true) /\
       qV n d ⟨e,true,bx.cs++cx⟩ (.aslc (n+d) 0 (len+nx) esz ag) { σ with bx:=σ.bx.set b none } K
      else False
     |none=>False
    |_=>False
  |_,_=>False
 |_=>False
def Ws (op:BinOp) (x y:AV) (K:AV->Prop):Prop :=
 match x.zu,y.zu with
 |some (k,a,l),some (k',b,l') =>
  match op with
  |.quo=>if k=k' then (if l' then (if b=0 then False else K (mkI k (k.wrap (a.tdiv b)) (l && l'))) else b≠0/\K (mkI k (k.wrap (a.tdiv b)) false)) else False
  |.rem=>if k=k' then (if l' then (if b=0 then False else K (mkI k (a.tmod b) (l && l'))) else b≠0/\K (mkI k (a.tmod b) false)) else False
  |.shl=>if l' then (if b<0 then False else K (mkI k (k.wrap (a*2 ^ (min b.toNat k.bits))) (l && l'))) else 0<=b/\K (mkI k (k.wrap (a*2 ^ (min b.toNat k.bits))) false)
  |.shr=>if l' then (if b<0 then False else K (mkI k (a.fdiv (2 ^ (min b.toNat k.bits))) (l && l'))) else 0<=b/\K (mkI k (a.fdiv (2 ^ (min b.toNat k.bits))) false)
  |_=>False
 |_,_=>False
section
variable (P:Program) (S:Specs) (n:Nat)
def XY (P:Program) (op:BinOp) (t:TypeId) (x y:AV):Option (Bool × List AV) :=
 match P.underlying t,MM op with
 |some (.slice _),some e=>match x,y with
  |.slc (m+1) es,.slc 0 []=>if m == 3 then none else some (e,es)
  |.slc 0 [],.slc (m+1) es=>if m == 3 then none else some (e,es)
  |_,_=>none
 |_,_=>none
def OS (w:Ways) (d:Option Nat):Option Nat:=match d with
 |some d=>if w.ow.contains d then some d else none
 |none=>none
mutual
def jS:AV->Option Value
 |.int k n=>some (.int k n)
 |.bool b=>some (.bool b)
 |.str s=>some (.string s)
 |.agg cs=>(cvL cs).map fun l=>.agg l.toArray
 |_=>none
def cvL:List AV->Option (List Value)
 |[]=>some []
 |x::r=>match jS x,cvL r with
  |some v,some l=>some (v::l)
  |_,_=>none
end
def PS (P:Program) (kt:TypeId) (c:Value):Prop :=
 match P.underlying kt with
 |some (.struct _) | some (.array _ _)=>P.keyTypeAt 2 kt=true/\P.tiled 2 kt=true/\∃l,keyOf P kt c=some l
 |some d=>MapKept.IsKey d c
 |none=>False
def xu (P:Program) (kt:TypeId) (k:AV):Prop:=∃c,jS k=some c/\PS P kt c
def kK (P:Program) (kt:TypeId) (M:List AV):Prop:=∀x∈M,∃k v,x=.agg [k,v]/\xu P kt k
def ua (z:AV) (M:List AV) (k:AV) (f:Bool) (v:AV):Prop :=
 if f then ∃i:Nat,M[i]? = some (.agg [k,v])/\∀(j:Nat) (v':AV),M[j]? = some (.agg [k,v'])->j=i else (∀v',.agg [k,v']∉M)/\v=z
def AV.zF (v:AV):AV:=if v.tree then v else .undef
def xP (M:List AV) (k v:AV) (M':List AV):Prop :=
 (∃(i:Nat) (v0:AV),M[i]? = some (.agg [k,v0])/\(∀(j:Nat) (v':AV),M[j]? = some (.agg [k,v'])->j=i)/\M'=M.set i (.agg [k,v]))\/((∀v',.agg [k,v']∉M)/\M'=M++[.agg [k,v]])
def T2 (n d:Nat) (t:TypeId) (σ:St) (K:St->Prop):Prop :=
 if vL (n+d) { sl:=σ.sl.set d .undef,bx:=σ.bx.set (n+d) none } && decide (d<σ.sl.length) && decide (n+d<σ.bx.length) then K { sl:=σ.sl.set d (.map (n+d)),bx:=σ.bx.set (n+d) (some ⟨t,false,[.iface 1000000 (.slc 3 [])]⟩) } else False
def kX (P:Program) (t:TypeId) (σ:St) (m k:AV) (ok:Bool) (K:AV->Prop):Prop :=
 match P.underlying t,m with
 |some (.map kt et),.map b=>match σ.bx.getD b none,wz P et with
  |some x,some z=>match x.mp with
   |some es=>kK P kt es/\xu P kt k.norm/\exT P et fun v=>∃f:Bool,ua z.norm es k.norm f v/\K (if ok then .tup [v,.bool f] else v)
   |none=>False
  |_,_=>False
 |_,_=>False
def La (P:Program) (t:TypeId) (σ:St) (m k v:AV) (K:St->Prop):Prop :=
 match P.underlying t,m with
 |some (.map kt _),.map b=>match σ.bx.getD b none with
  |some x=>match x.mp with
   |some es=>kK P kt es/\xu P kt k.norm/\∃es':List AV,xP es k.norm v.zF.norm es'/\K { σ with bx:=σ.bx.set b (some { x with cs:=[.iface 1000000 (.slc 3 es')] }) }
   |none=>False
  |none=>False
 |_,_=>False
def wC (s:ByteArray):List AV:=s.data.toList.map fun b=>.int .u8 b.toNat
def bytesOf (P:Program) (s d:TypeId) (v:AV):Option AV :=
 match P.underlying s,P.underlying d,v with
 |some .string,some (.slice e),.str b=>match P.underlying e with
  |some (.int .u8)=>some (.slc 3 (wC b))
  |_=>none
 |_,_,_=>none
def aop (o:Oper) (σ:St) (K:St->Prop):Prop :=
 match o.op with
 |.alloc t=>match o.dst,wz P t with
  |some d,some z=>qV n d ⟨t,false,z.cells⟩ (.ref (n+d) 0) σ K
  |_,_=>False
 |.box t x=>match o.dst with
  |some d=>if (ev σ x).zl then qV n d ⟨t,false,(ev σ x).cells⟩ (.ref (n+d) 0) σ K else False
  |none=>False
 |.buildSlice t len ps =>
  match P.underlying t with
  |some (.slice e) =>
   match wz P e with
   |some z =>
    if len*P.cellsOf e<=2 ^ 20/\0<P.cellsOf e/\z.cells.length=P.cellsOf e/\(yf P e=false->P.cellsOf e=1)/\(P.underlying e).isSome then
     match ur (fun i=>some (i*P.cellsOf e,P.cellsOf e)) ((List.replicate len z.cells).flatten) (ps.toList.map fun p=>(p.1,ev σ p.2)) with
     |some out=>if AV.zi out && yn out then (match OS S.frs o.dst with
      |some d=>qV n d ⟨e,true,AV.zb out⟩ (.aslc (n+d) 0 len (P.cellsOf e) (yf P e)) σ K
      |none=>K (σ.put o.dst (.slc 2 (chunks (P.cellsOf e) (yf P e) len (AV.zb out))))) else False
     |none=>False
    else False
   |none=>False
  |_=>False
 |.makeMap t none=>match o.dst,P.underlying t with
  |some d,some (.map _ _)=>T2 n d t σ K
  |_,_=>False
 |.lookup t x k ok=>kX P t σ (ev σ x) (ev σ k) ok fun v=>K (σ.put o.dst v)
 |.mapUpdate t x k v=>La P t σ (ev σ x) (ev σ k) (ev σ v) fun σ=>K (σ.put o.dst (.tup []))
 |.load t x=>vT P t σ (ev σ x) fun v=>K (σ.put o.dst v)
 |.store t a x=>xW P t σ (ev σ a) (ev σ x) fun σ=>K (σ.put o.dst (.tup []))
 |.indexAddr t x i=>qQ P S.frs t (ev σ x) (ev σ i) fun v=>K (σ.put o.dst v)
 |.index t x i=>uz P t (ev σ x) (ev σ i) fun v=>K (σ.put o.dst v)
 |.slice t x lo hi mx=>kA P t σ (ev σ x) (lo.map (ev σ)) (hi.map (ev σ)) (mx.map (ev σ)) fun v=>K (σ.put o.dst v)
 |.convert s d x=>match bytesOf P s d (ev σ x) with
  |some v=>K (σ.put o.dst v)
  |none=>match jC P (ev σ) (.convert s d x) with
   |some v=>K (σ.put o.dst v)
   |none=>False
 |.makeSlice t l c =>
  match P.underlying t,(ev σ l).zu,(ev σ c).zu,o.dst with
  |some (.slice e),some (_,l,_),some (_,c,_),some d=>match wz P e with
   |some z=>if 0<P.cellsOf e/\z.cells.length=P.cellsOf e/\z.tree=true then (0<=l/\l<=c/\(c+1)*(P.bytesOf e+1)<=2 ^ 48) /\
     qV n d ⟨e,true,(List.replicate l.toNat z.norm.cells).flatten⟩ (.aslc (n+d) 0 l.toNat (P.cellsOf e) (yf P e)) σ K else False
   |none=>False
  |_,_,_,_=>False
 |.binOp .quo _ x y _=>Ws .quo (ev σ x) (ev σ y) fun v=>K (σ.put o.dst v)
 |.binOp .rem _ x y _=>Ws .rem (ev σ x) (ev σ y) fun v=>K (σ.put o.dst v)
 |.binOp .shl _ x y _=>Ws .shl (ev σ x) (ev σ y) fun v=>K (σ.put o.dst v)
 |.binOp .shr _ x y _=>Ws .shr (ev σ x) (ev σ y) fun v=>K (σ.put o.dst v)
 |.binOp op t x y yt=>match XY P op t (ev σ x) (ev σ y) with
  |some (e,es)=>∀b:Bool,(es≠[]->b=!e)->K (σ.put o.dst (.bool b))
  |none=>match jC P (ev σ) (.binOp op t x y yt) with
   |some v=>K (σ.put o.dst v)
   |none=>False
 |.call c =>
  match c.callee with
  |.value (.func f)=>if S.frs.fr.contains f then ui P S n f (c.args.toList.map (ev σ)) o.dst σ K else vR P S n f (c.args.toList.map (ev σ)) o.dst σ K
  |.value f=>match ev σ f with
   |.fn g first caps=>vR P S n g (first++(c.args.toList.map (ev σ)++caps)) o.dst σ K
   |_=>False
  |.invoke r name=>match ev σ r with
   |.iface t v=>match S2 P t name with
    |some g=>vR P S n g (v::c.args.toList.map (ev σ)) o.dst σ K
    |none=>False
   |_=>False
  |.builtin .append=>match c.args.toList.map (ev σ),o.dst with
   |[s,x],some d=>jR P n c.argTypes.toList s x d σ K
   |_,_=>False
  |.builtin _=>match jC P (ev σ) (.call c) with
   |some v=>K (σ.put o.dst v)
   |none=>False
 |op=>match jC P (ev σ) op with
  |some v=>K (σ.put o.dst v)
  |none=>False
def qi (ops:List Oper):List (Option Nat):=ops.map (·.dst)
def w8 (dsts:List (Option Nat)):List Oper->St->(St->Prop)->Prop
 |[],σ,K=>K σ
 |o::r,σ,K =>
  match o.guard with
  |none=>aop P S n o σ fun σ=>w8 dsts r σ K
  |some (j,want) =>
   match dsts[j]? with
   |some (some d) =>
    match σ.sl.getD d .undef with
    |.tt=>if want then aop P S n o σ fun σ=>w8 dsts r σ K else w8 dsts r (σ.put o.dst (.tup [])) K
    |.ff=>if want then w8 dsts r (σ.put o.dst (.tup [])) K else aop P S n o σ fun σ=>w8 dsts r σ K
    |.bool b =>
     if want then br b (aop P S n o (σ.put (some d) .tt) fun σ=>w8 dsts r σ K) (w8 dsts r ((σ.put (some d) .ff).put o.dst (.tup [])) K)
     else br b (w8 dsts r ((σ.put (some d) .tt).put o.dst (.tup [])) K) (aop P S n o (σ.put (some d) .ff) fun σ=>w8 dsts r σ K)
    |.tup []=>w8 dsts r (σ.put o.dst (.tup [])) K
    |_=>False
   |_=>False
def Yf:AV->List Nat
 |.ref b _=>[b]
 |_=>[]
def GM:AV->List Nat
 |.map b=>[b]
 |_=>[]
def YT (σ:St) (c:Call):Option (List AV) :=
 match c.callee with
 |.value (.func _)=>some (c.args.toList.map (ev σ))
 |.value f=>match ev σ f with
  |.fn _ first caps=>some (first++(c.args.toList.map (ev σ)++caps))
  |_=>none
 |.invoke r _=>match ev σ r with
  |.iface _ v=>some (v::c.args.toList.map (ev σ))
  |_=>none
 |.builtin _=>none
def JC (σ:St) (c:Call):List Nat :=
 match YT σ c with
 |some l=>(AV.za l).map (·.1)
 |none=>[]
mutual
def roV (B:List Nat):AV->Bool
 |.lit .. | .tt | .ff | .aslc ..=>false
 |.slc m _=>m == 3
 |.ref b _ | .map b=>B.contains b
 |.fn _ a b=>roL B a && roL B b
 |.iface _ v=>roV B v
 |.agg cs | .tup cs=>roL B cs
 |.eptr cs _=>(AV.za cs).isEmpty && (AV.zd cs).all fun b=>B.contains b
 |_=>true
def roL (B:List Nat):List AV->Bool
 |[]=>true
 |x::r=>roV B x && roL B r
end
def yv (σ:St) (l:List AV):List Nat:=wo (fun b=>(σ.box b).map (AV.ze σ.zg)) 30 (AV.zd (AV.ze σ.zg l)) []
def X6 (σ:St) (l:List AV) (B:List Nat):Bool:=(AV.za l).isEmpty && (AV.zd l).all (fun b=>B.contains b) && decide B.Nodup && B.all fun b=>match σ.bx.getD b none with
 |some x=>!x.arr && roL B x.cs
 |none=>false
def WA (σ:St) (c:Call):Option FuncId :=
 match c.callee with
 |.value (.func f)=>some f
 |.value f=>match ev σ f with
  |.fn g _ _=>some g
  |_=>none
 |_=>none
def MP (w:Ways) (σ:St) (c:Call):Bool :=
 match WA σ c with
 |some f=>w.ro.contains f
 |none=>false
def IH (w:Ways) (σ:St) (c:Call):Bool :=
 match WA σ c with
 |some f=>w.ro.contains (f+999000000)
 |none=>false
def U7 (σ:St) (l:List AV) (B:List Nat):Bool:=(AV.za l).isEmpty && (AV.zd l).all (fun b=>B.contains b) && decide B.Nodup && B.all fun b=>match σ.bx.getD b none with
 |some x=>!x.arr && (AV.za x.cs).isEmpty && (AV.zd x.cs).all (fun b=>B.contains b)
 |none=>false
def wrB (w:Ways) (σ:St) (c:Call):List Nat:=if IH w σ c then (match YT σ c with
 |some l=>yv σ l
 |none=>[]) else []
def MN (frs:Ways) (c:Call):Bool :=
 match c.callee with
 |.value (.func f)=>frs.fr.contains f
 |_=>false
def MO (w:Ways) (σ:St) (c:Call):Bool :=
 match c.callee with
 |.value (.func f)=>(w.zr f).isSome
 |.value f=>match ev σ f with
  |.fn g _ _=>(w.zr g).isSome
  |_=>false
 |.invoke _ _=>!w.il.isEmpty
 |_=>false
def wF:AV->List Nat
 |.aslc b ..=>[b]
 |_=>[]
def Ii (c:Call):FuncId:=match c.callee with
 |.value (.func f)=>f
 |_=>0
def frR (P:Program) (c:Call) (args:List AV) (d:Option Nat):Option (List Nat × List Nat) :=
 if (Us args).isSome then none else
 match XG P (Ii c) with
 |some _=>some ([],[])
 |none=>match d with
  |some d=>some ([],[d])
  |none=>none
def frW (n:Nat) (frs:Ways) (c:Call) (d:Option Nat):List Nat:=if MN frs c then (match d with
 |some d=>[n+d]
 |none=>[]) else []
def J4 (args:List AV) (d:Option Nat):Option (List Nat × List Nat) :=
 match args,d with
 |[s,x],some d=>some (wF s++wF x,[d])
 |_,_=>none
def Du (n:Nat) (args:List AV) (d:Option Nat):List Nat :=
 match args,d with
 |[s,_],some d=>wF s++[n+d]
 |_,_=>[]
def fpR (frs:Ways) (o:Oper) (σ:St):Option (List Nat × List Nat) :=
 match o.op with
 |.alloc _=>match o.dst with
  |some d=>some ([],[d])
  |none=>none
 |.load _ x=>some (Yf (ev σ x),[])
 |.store _ a _=>some (Yf (ev σ a),[])
 |.lookup _ x _ _=>some (GM (ev σ x),[])
 |.slice _ x _ _ _=>if frs.ro.contains 994000000 then (match ev σ x with
  |.slc ..=>some ([],[])
  |_=>none) else none
 |.box .. | .makeSlice .. | .makeMap .. | .mapUpdate ..=>none
 |.buildSlice ..=>if (OS frs o.dst).isSome then none else some ([],[])
 |.binOp op t x y _=>if (XY P op t (ev σ x) (ev σ y)).isSome then none else some ([],[])
 |.call c=>if MN frs c then frR P c (c.args.toList.map (ev σ)) o.dst else if MO frs σ c then none else match c.callee with
  |.builtin .append=>J4 (c.args.toList.map (ev σ)) o.dst
  |.builtin _=>some ([],[])
  |_=>match YT σ c with
   |some l=>if (AV.zd (AV.ze σ.zg l)).isEmpty then some ((AV.za l).map (·.1),[]) else if MP frs σ c && X6 σ l (yv σ l) then some (yv σ l,[]) else if IH frs σ c && U7 σ l (yv σ l) then some (yv σ l,[]) else none
   |none=>some ([],[])
 |_=>some ([],[])
def fpW (frs:Ways) (o:Oper) (σ σ':St):List Nat :=
 match o.op with
 |.alloc _=>match o.dst with
  |some d=>[n+d]
  |none=>[]
 |.store _ a _=>Yf (ev σ a)
 |.call c=>match c.callee with
  |.builtin .append=>Du n (c.args.toList.map (ev σ)) o.dst
  |_=>((JC σ c).filter fun b=>(σ'.bx.getD b none).isNone)++(wrB frs σ c++frW n frs c o.dst)
 |_=>[]
def fpF (d:Option Nat) (W:List Nat) (σ':St):List Nat :=
 (match d with
  |some d=>(σ'.sl.getD d .undef).refs
  |none=>[])++W.flatMap fun b=>match σ'.bx.getD b none with
  |some x=>x.refs
  |none=>[]
structure Fp where
 i:Nat
 o:Oper
 R:List Nat
 W:List Nat
 F:List Nat
 rf:List Nat
def XB (a b:List Nat):Bool:=a.all fun x=>!b.contains x
def Qi (ops:Array Oper) (a:Nat):Nat->Nat->Bool
 |0,_=>false
 |k+1,b=>match ops[b]? with
  |some o=>o.after.toList.any fun e=>Region.binds .any e && (e.on == a || Qi ops a k e.on)
  |none=>false
def Fp.fits (ops:Array Oper) (a b:Fp):Bool :=
 a.o.after.toList.all (fun e=>!(Region.binds .any e && e.on == b.i)) && XB (b.F.map (n+·)) a.rf && (b.o.after.toList.any (fun e=>Region.binds .any e && (e.on == a.i || Qi ops a.i 2 e.on)) ||
  (a.o.apart ops b.o && XB a.W b.R && XB b.W a.R && XB a.W b.W && XB (a.F.map (n+·)) b.rf))
def vG (d:Nat) (σ:St):Bool:=vL (n+d) { sl:=σ.sl.set d .undef,bx:=σ.bx.set (n+d) none }
def split (g:Bool) (d:Option Nat) (σ:St) (K:St->Prop):Prop :=
 match g,d with
 |true,some d=>match σ.sl.getD d .undef with
  |.bool b=>br b (K (σ.put (some d) .tt)) (K (σ.put (some d) .ff))
  |_=>K σ
 |_,_=>K σ
def gop (dsts:List (Option Nat)) (g:Bool) (o:Oper) (σ:St) (K:St->Prop):Prop :=
 match o.guard with
 |none=>aop P S n o σ fun σ=>split g o.dst σ K
 |some (j,want) =>
  match dsts[j]? with
  |some (some d) =>
   match σ.sl.getD d .undef with
   |.tt=>if want then aop P S n o σ fun σ=>split g o.dst σ K else K (σ.put o.dst (.tup []))
   |.ff=>if want then K (σ.put o.dst (.tup [])) else aop P S n o σ fun σ=>split g o.dst σ K
   |.tup []=>K (σ.put o.dst (.tup []))
   |_=>False
  |_=>False
def SU (ops:Array Oper) (i:Nat):Bool:=ops.toList.any fun o=>match o.guard with
 |some (j,_)=>j == i
 |none=>false
def kh:List Nat->(List Nat->Prop)->Prop
 |[],k=>k []
 |0::r,k=>kh r fun r=>k (0::r)
 |(x+1)::r,k=>kh r fun r=>k ((x+1)::r)
def S4 (w:Ways) (o:Oper):Bool:=match o.op with
 |.slice ..=>!w.ro.contains 994000000
 |.box .. | .makeSlice .. | .makeMap .. | .mapUpdate ..=>true
 |.buildSlice ..=>(OS w o.dst).isSome
 |.call c=>match c.callee with
  |.value (.func f)=>(w.zr f).isSome
  |.value _=>w.ro.contains 997000000
  |_=>false
 |_=>false
def zaz (w:Ways) (ops:Array Oper):Nat->List Nat->List Nat->List Nat
 |0,_,done=>done.reverse
 |k+1,rem,done=>match (rem.find? (fun i=>match ops[i]? with
   |some o=>!S4 w o && o.after.toList.all fun e=>!Region.binds .any e || done.contains e.on
   |none=>false)).or (rem.find? (fun i=>match ops[i]? with
   |some o=>o.after.toList.all fun e=>!Region.binds .any e || done.contains e.on
   |none=>false)) with
  |some i=>zaz w ops k (rem.filter fun j=>!(j == i)) (i::done)
  |none=>done.reverse
def Td (ops:Array Oper):List Nat->List Fp->St->(St->Prop)->Prop
 |[],_,σ,K=>K σ
 |i::r,past,σ,K =>
  match ops[i]? with
  |none=>False
  |some o=>match fpR P S.frs o σ with
   |none=>False
   |some (R,F) =>
    if o.after.toList.all (fun e=>decide (e.on<ops.size) && !(e.on == i)) then
     gop P S n (qi ops.toList) (SU ops i) o σ fun σ' =>
      kh R fun R=>kh (fpW n S.frs o σ σ') fun W=>kh F fun F=>kh (fpF o.dst W σ') fun rf =>
       if past.all (fun q=>q.fits n ops ⟨i,o,R,W,F,rf⟩) then Td ops r (⟨i,o,R,W,F,rf⟩::past) σ' K else False
    else False
def XJ (ops:Array Oper):List Nat->List Nat->Bool
 |[],_=>true
 |x::r,seen=>(seen.any fun y=>match ops[y]? with
   |some o=>o.after.toList.any fun e=>Region.binds .any e && e.on == x
   |none=>false) && XJ ops r (x::seen)
def Wq (ops:Array Oper):List Nat->List Nat->Bool
 |[],_=>true
 |l::r,seen=>(match ops[l]? with
  |some o=>o.after.toList.all fun e=>decide (e.on<ops.size) && seen.contains e.on
  |none=>false) && XJ ops seen [l] && Wq ops r (l::seen)
def wK (w:Ways) (ops:Array Oper):List Nat->List Nat × List Nat
 |[]=>([],[])
 |i::r=>if (match ops[i]? with
   |some o=>S4 w o
   |none=>false) then ([],i::r) else (i::(wK w ops r).1,(wK w ops r).2)
def WC (ops:Array Oper) (pre fin:List Nat):Bool:=Wq ops fin pre.reverse && pre.all fun x=>match ops[x]? with
 |some o=>o.after.toList.all fun e=>!(Region.binds .any e && fin.contains e.on)
 |none=>false
def O3 (ops:Array Oper):List Nat->(St->Prop)->St->Prop
 |[],K,σ=>K σ
 |l::r,K,σ=>match ops[l]? with
  |some o=>gop P S n (qi ops.toList) (SU ops l) o σ (O3 ops r K)
  |none=>False
def TG (ops:Array Oper) (ord:List Nat) (σ:St) (K:St->Prop):Prop :=
 if (wK S.frs ops ord).2.isEmpty then Td P S n ops ord [] σ K else
 kh (wK S.frs ops ord).1 fun pre=>kh (wK S.frs ops ord).2 fun fin =>
  if WC ops pre fin then Td P S n ops pre [] σ (O3 P S n ops fin K) else False
structure v8 where
 sl:List Nat
 es:List (Bool × AV)
def uP (P:Program) (t:TypeId):Bool:=match P.underlying t with
 |some (.map k _)=>match P.underlying k with
  |some .bool=>true
  |_=>false
 |_=>false
def KW (P:Program) (ops:List Oper):Bool:=ops.any fun o=>match o.op with
 |.makeMap t _=>uP P t
 |_=>false
def TZ (M:v8):Option Nat->Bool
 |some d=>!M.sl.contains d
 |none=>true
def Wl (o:Oper) (M:v8) (σ:St) (K:v8->St->Prop):Prop :=
 if TZ M o.dst then match jC P (ev σ) o.op with
  |some v=>K M (σ.put o.dst v)
  |none=>False
 else False
def UG (M:v8) (d:Option Nat) (b:Bool) (σ:St) (K:v8->St->Prop):Prop :=
 match M.es.lookup b with
 |some v=>K M (σ.put d v)
 |none=>False
def MV (o:Oper) (M:v8) (σ:St) (K:v8->St->Prop):Prop :=
 match o.op with
 |.load t x=>if TZ M o.dst then vT P t σ (ev σ x) fun v=>K M (σ.put o.dst v) else False
 |.insert t x k v=>match x,(ev σ k).zN with
  |.tmp m,some b=>if M.sl.contains m && uP P t && (M.es.lookup b).isNone && TZ M o.dst then K ⟨M.sl,M.es++[(b,ev σ v)]⟩ (σ.put o.dst (.tup [])) else False
  |_,_=>False
 |.lookup t x k ok=>match x,(ev σ k).zN with
  |.tmp m,some b=>if !ok && M.sl.contains m && uP P t && TZ M o.dst then br b (UG M o.dst true σ K) (UG M o.dst false σ K) else False
  |_,_=>False
 |.move x=>match x,o.dst with
  |.tmp m,some d=>if M.sl.contains m then (if decide (d<σ.sl.length) then K ⟨d::M.sl,M.es⟩ (σ.put (some d) .undef) else False) else Wl P o M σ K
  |_,_=>Wl P o M σ K
 |_=>Wl P o M σ K
def uf:List Oper->Option v8->St->(St->Prop)->Prop
 |[],_,σ,K=>K σ
 |o::r,M,σ,K =>
  if o.guard.isSome then False else
  match M with
  |none=>match o.op,o.dst with
   |.makeMap t none,some d=>if uP P t && decide (d<σ.sl.length) then uf r (some ⟨[d],[]⟩) (σ.put (some d) .undef) K else False
   |.makeMap _ _,_=>False
   |_,_=>aop P S n o σ fun σ=>uf r none σ K
  |some M=>MV P o M σ fun M σ=>uf r (some M) σ K
def ud (w:Ways) (ops:Array Oper):List Nat:=ops.toList.filterMap fun o=>match o.op with
 |.alloc _=>o.dst
 |.call c=>match c.callee with
  |.builtin .append=>o.dst
  |_=>if MN w c then o.dst else none
 |_=>none
def T9 (ops:Array Oper) (ord:List Nat):Bool:=(List.range ops.size).all (fun i=>ord.contains i) && decide ord.Nodup && ord.length == ops.size && ord.all (fun i=>decide (i<ops.size))
def clean (keep:List Nat) (σ:St):St:={ σ with sl:=UC σ.sl fun i v=>if keep.contains i then v else .undef }
mutual
def xU:AV->(AV->Prop)->Prop
 |.undef,k=>k .undef
 |.tt,k=>k .tt
 |.ff,k=>k .ff
 |.bool b,k=>k (.bool b)
 |.lit t n,k=>k (.lit t n)
 |.int t n,k=>k (.int t n)
 |.str s,k=>k (.str s)
 |.nilp,k=>k .nilp
 |.eptr cs off,k=>kU cs fun cs=>k (.eptr cs off)
 |.ref b off,k=>k (.ref b off)
 |.slc m es,k=>k (.slc m es)
 |.aslc b off len esz ag,k=>k (.aslc b off len esz ag)
 |.fn f a c,k=>kU a fun a=>kU c fun c=>k (.fn f a c)
 |.nilfn,k=>k .nilfn
 |.iface t v,k=>xU v fun v=>k (.iface t v)
 |.nilif,k=>k .nilif
 |.agg cs,k=>kU cs fun cs=>k (.agg cs)
 |.tup vs,k=>kU vs fun vs=>k (.tup vs)
 |.map b,k=>k (.map b)
 |.nilmap,k=>k .nilmap
 |.yld l,k=>k (.yld l)
def kU:List AV->(List AV->Prop)->Prop
 |[],k=>k []
 |x::r,k=>xU x fun x=>kU r fun r=>k (x::r)
end
def Y9 (keep:List Nat):Nat->List AV->(List AV->Prop)->Prop
 |_,[],k=>k []
 |i,x::r,k=>if keep.contains i then xU x fun x=>Y9 keep (i+1) r fun r=>k (x::r) else Y9 keep (i+1) r fun r=>k (.undef::r)
def vD:List (Option Bx)->(List (Option Bx)->Prop)->Prop
 |[],k=>k []
 |none::r,k=>vD r fun r=>k (none::r)
 |some ⟨t,true,cs⟩::r,k=>vD r fun r=>k (some ⟨t,true,cs⟩::r)
 |some ⟨t,false,cs⟩::r,k=>kU cs fun cs=>vD r fun r=>k (some ⟨t,false,cs⟩::r)
def Yv (keep:List Nat) (σ:St) (K:St->Prop):Prop:=Y9 keep 0 σ.sl fun sl=>vD σ.bx fun bx=>K ⟨sl,bx⟩
inductive Ex where
 |normal
 |exit (id:Nat)
 |ret
def Sb (v v':AV):Prop:=v'=.undef\/v'=v\/v'=v.norm\/((v=.slc 0 []\/v=.slc 2 [])/\∃b esz ag,v'=.aslc b 0 0 esz ag)
def OX (v v':AV):Prop:=v'=.undef\/v'=v\/v'=v.norm
structure xQ (n:Nat) (σ σ':St):Prop where
 ex:∃h:Nat->Option Nat,(∀b i,h b=some i->i<n->b=i)/\True/\(∀b c i,h b=some i->h c=some i->b=c) /\
  (∀t,Sb ((σ.sl.getD t .undef).zj h) (σ'.sl.getD t .undef)) /\
  (∀b' x',σ'.bx.getD b' none=some x'->(∃b x,h b=some b'/\σ.bx.getD b none=some x/\x'.arr=x.arr/\x'.cs.length=x.cs.length/\ql x'.cs=ql x.cs /\
   ∀j,if x.arr then OX (x.cs.getD j .undef) (x'.cs.getD j .undef) else Sb ((x.cs.getD j .undef).zj h) (x'.cs.getD j .undef))\/(x'.cs=[]/\n<=b'/\∀b,h b≠some b'))
 len:σ'.sl.length=σ.sl.length
def TO (n:Nat) (f:St->(Ex->St->Prop)->Prop):Nat->St->(Ex->St->Prop)->Prop
 |0,_,_=>False
 |m+1,σ,K=>f σ fun e σ=>match e with
  |.normal=>∃σ',xQ n σ σ'/\TO n f m σ' K
  |e=>K e σ
def Pd (f:St->(Ex->St->Prop)->Prop):Nat->St->(Ex->St->Prop)->Prop
 |0,_,_=>False
 |m+1,σ,K=>f σ fun e σ=>match e with
  |.normal=>Pd f m σ K
  |e=>K e σ
def wP:Code->Option Nat
 |.region id _ _=>some id
 |.seq a b=>match wP a with
  |some i=>some i
  |none=>wP b
 |.cond _ a b=>match wP a with
  |some i=>some i
  |none=>wP b
 |.block _ b | .loop b | .scope b=>wP b
 |_=>none
def um:Code->List Nat
 |.region _ ops _=>ops.toList.filterMap (·.dst)
 |.seq a b | .cond _ a b=>um a++um b
 |.block _ b | .loop b | .scope b=>um b
 |.rangeFunc g ps a b=>(match g with | .tmp t=>[t] | _=>[])++(ps.toList++(um a++um b))
 |_=>[]
def Ctl.dsts (ctl:Ctl) (c:Code):List Nat:=um c++(ctl.fz.filter fun q=>decide (q.2<1000000000)).map (fun q=>q.2 % 1000000)
def Ctl.zC (ctl:Ctl) (id:Nat):List Nat:=(ctl.fz.filter fun q=>q.1 == id).map (·.2)
def jT (esz:Nat) (ag:Bool) (es:List AV):Prop:=∀v∈es,if ag then ∃c,v=.agg c/\c.length=esz else v.cells=[v]
def UH (nm:Bool) (esz:Nat) (ag:Bool) (len:Nat) (cs:List AV) (K:List AV->Prop):Prop :=
 if nm then ∃es:List AV,(es.length=len/\es.flatMap AV.cells=cs/\jT esz ag es)/\K es else K (chunks esz ag len cs)
def vE (nm:Bool) (n t:Nat) (σ:St) (K:St->Prop):Prop :=
 match σ.sl.getD t .undef with
 |.aslc b off len esz ag=>match σ.zg b with
  |some cs=>if n<=b then q8 σ.zg [(b,off+len*esz,esz,ag)] (UH nm esz ag len (cs.drop off) fun es=>K ⟨σ.sl.set t (.slc 3 es),σ.bx.set b none⟩) else False
  |none=>False
 |.ref b off=>match σ.bx.getD b none with
  |some x=>if !x.arr && (ql x.cs).isNone && (AV.za x.cs).isEmpty && decide (n<=b) then K ⟨σ.sl.set t (.eptr x.cs off),σ.bx.set b none⟩ else False
  |none=>False
 |_=>K σ
def UW (k t:Nat) (σ:St) (K:St->Prop):Prop :=
 match σ.sl.getD t .undef with
 |.int kd j=>(0<=j/\j<k)/\Qa j (fun i=>K { σ with sl:=σ.sl.set t (.lit kd i) }) k
 |_=>K σ
def vF (nm:Bool) (n off c:Nat) (σ:St) (K:St->Prop):Prop :=
 match σ.bx.getD c none with
 |some x=>if x.arr then K σ else match x.cs.getD off .undef with
  |.aslc b o len esz ag=>match σ.zg b with
   |some cs=>if (ql x.cs).isNone && decide (n<=b) && !(b == c) then q8 σ.zg [(b,o+len*esz,esz,ag)] (UH nm esz ag len (cs.drop o) fun es=>K ⟨σ.sl,(σ.bx.set b none).set c (some { x with cs:=x.cs.set off (.slc 3 es) })⟩) else False
   |none=>False
  |_=>K σ
 |none=>K σ
def TC (off c:Nat) (σ:St) (K:St->Prop):Prop :=
 match σ.bx.getD c none with
 |some x=>if x.arr || (ql x.cs).isSome then K σ else match x.cs.getD off .undef with
  |.slc (_+1) es=>∃(v:AV) (r:List AV),es=v::r/\K ⟨σ.sl,σ.bx.set c (some { x with cs:=x.cs.set off (.slc 4 (v::r)) })⟩
  |.aslc b o len esz ag=>∃k:Nat,len=k+1/\K ⟨σ.sl,σ.bx.set c (some { x with cs:=x.cs.set off (.aslc b o (k+1) esz ag) })⟩
  |_=>K σ
 |none=>K σ
def HF (n t:Nat) (σ:St):Nat:=if t<3000000000 then n+t % 1000000 else (wo σ.z6 30 (AV.refs (σ.sl.getD (t % 1000000) .undef)) []).getD (t / 1000000000-3) 0
def qp (n:Nat):List Nat->St->(St->Prop)->Prop
 |[],σ,K=>K σ
 |t::r,σ,K=>if t<1000000 then vE false n t σ fun σ=>qp n r σ K else if t<1000000000 then (if t / 1000000=999 then vE true n (t % 1000000) σ fun σ=>qp n r σ K else UW (t / 1000000) (t % 1000000) σ fun σ=>qp n r σ K) else if t<2000000000 then vF false n (t / 1000000-1000) (n+t % 1000000) σ fun σ=>qp n r σ K else if 500<=t / 1000000 % 1000 then TC (t / 1000000 % 1000-500) (HF n t σ) σ fun σ=>qp n r σ K else vF true n (t / 1000000 % 1000) (HF n t σ) σ fun σ=>qp n r σ K
def N2 (l:List Pat) (i:Option Nat):Option Pat :=
 match i with
 |some i=>l.find? fun p=>p.id == i
 |none=>none
mutual
def uv:AV->AV->Bool
 |.int k _,.int k' _=>decide (k=k')
 |.bool _,.bool _=>true
 |.str _,.str _=>true
 |.slc _ _,.slc 3 _=>true
 |.lit k n,.lit k' n'=>decide (k=k'/\n=n')
 |.tup _,.agg _=>true
 |.agg cs,.agg cs'=>qZ cs cs'
 |.eptr cs o,.eptr cs' o'=>decide (o=o') && qZ cs cs'
 |.iface t v,.iface t' v'=>decide (t=t') && uv v v'
 |.undef,v=>v.tree
 |_,_=>false
def qZ:List AV->List AV->Bool
 |[],[]=>true
 |x::r,y::s=>uv x y && qZ r s
 |_,_=>false
end
mutual
def LU:AV->(AV->Prop)->Prop
 |.int k _,K=>∀n:Int,K (.int k n)
 |.bool _,K=>∀b:Bool,K (.bool b)
 |.str _,K=>∀s:ByteArray,K (.str s)
 |.slc _ _,K=>∀es:List AV,K (.slc 3 es)
 |.lit k n,K=>K (.lit k n)
 |.tup _,K=>∀cs:List AV,K (.agg cs)
 |.agg cs,K=>YQ cs fun cs=>K (.agg cs)
 |.eptr cs o,K=>YQ cs fun cs=>K (.eptr cs o)
 |.iface t v,K=>LU v fun v=>K (.iface t v)
 |.undef,K=>∀v:AV,v.tree=true->K v
 |_,_=>True
def YQ:List AV->(List AV->Prop)->Prop
 |[],K=>K []
 |x::r,K=>LU x fun v=>YQ r fun l=>K (v::l)
end
def LR:Nat->(List (List AV)->Prop)->Prop
 |0,K=>K []
 |m+1,K=>∀es:List AV,LR m fun l=>K (es::l)
def MH (ps:List (Nat × Nat)) (ts:List Nat) (b:Nat):Option Nat :=
 match ps.lookup b with
 |some i=>some i
 |none=>if ts.contains b then none else some b
def self (h:Nat->Option Nat) (b:Nat):Bool :=
 match h b with
 |some i=>i == b
 |none=>false
def AV.fixed (h:Nat->Option Nat) (v:AV):Bool:=v.refs.all (self h)
def xR (n:Nat) (p:Pat) (σ:St):List (Nat × Nat):=p.app.filterMap fun q=>match σ.sl.getD q.1 .undef with
 |.aslc b _ _ _ _=>some (b,n+q.1)
 |_=>none
def Pat.zM (n:Nat) (p:Pat) (σ:St):Nat->Option Nat:=MH (xR n p σ) (p.app.map fun q=>n+q.1)
def GI (P:Program) (n:Nat) (p:Pat) (gs:List AV) (ls:List (List AV)):List (Nat × AV) :=
 (p.gen.map (·.1)).zip gs++List.zipWith (fun q es=>(q.1,.aslc (n+q.1) 0 es.length (P.cellsOf q.2) (yf P q.2))) p.app ls
def KJ (n:Nat) (p:Pat) (σ:St) (ls:List (List AV)) (bs:List AV):List (Nat × Bx) :=
 List.zipWith (fun q es=>(n+q.1,⟨q.2,true,es.flatMap AV.cells⟩)) p.app ls ++
 List.zipWith (fun q v=>(q.1,match σ.bx.getD q.1 none with
  |some x=>{ x with cs:=v.cells }
  |none=>⟨0,false,v.cells⟩)) p.bgen bs
def qP (P:Program) (n:Nat) (keep D:List Nat) (p:Pat) (σ:St) (gs:List AV) (ls:List (List AV)) (bs:List AV):St :=
 ⟨UC σ.sl fun t v=>if keep.contains t then (match (GI P n p gs ls).lookup t with
   |some v=>v
   |none=>if D.contains t then .undef else v) else .undef,
  UC σ.bx fun b x=>match (KJ n p σ ls bs).lookup b with
   |some y=>some y
   |none=>if (xR n p σ).any (fun q=>q.1 == b) then none else x⟩
def xz (gs:List AV) (ls:List (List AV)) (bs:List AV):List AV:=gs++(ls.map (AV.slc 3)++bs)
def Q5 (P:Program) (n:Nat) (keep D:List Nat) (p:Pat) (σ:St) (C:List AV->St->Prop):Prop :=
 YQ (p.gen.map (·.2)) fun gs=>LR p.app.length fun ls=>YQ (p.bgen.map (·.2)) fun bs=>C (xz gs ls bs) (qP P n keep D p σ gs ls bs)
def WD (σ:St):List (Nat × AV)->Option (List AV)
 |[]=>some []
 |(t,sk)::r=>if (σ.sl.getD t .undef).tree && uv sk (σ.sl.getD t .undef).norm then (WD σ r).map ((σ.sl.getD t .undef).norm::·) else none
def YY (σ0 σ:St):List (Nat × AV)->Option (List AV)
 |[]=>some []
 |(b,sk)::r=>match σ0.bx.getD b none,σ.bx.getD b none with
  |some x,some y=>if x.arr == y.arr && (x.arr || AV.zi y.cs) && uv sk (.agg (AV.zb y.cs)) then (YY σ0 σ r).map (.agg (AV.zb y.cs)::·) else none
  |_,_=>none
def uO (P:Program) (σ:St):List (Nat × TypeId)->(List (List AV)->Prop)->Prop
 |[],C=>C []
 |(t,e)::r,C=>match σ.sl.getD t .undef with
  |.slc 0 [] | .slc 2 []=>uO P σ r fun l=>C ([]::l)
  |.aslc b off len esz ag=>match σ.bx.getD b none with
   |some x=>if x.arr && off == 0 && esz == P.cellsOf e && ag == yf P e then ∃es:List AV,(es.length=len/\es.flatMap AV.cells=x.cs)/\uO P σ r fun l=>C (es::l) else False
   |none=>False
  |_=>False
def uC (entry:Bool) (h:Nat->Option Nat) (skip:Nat->Bool) (σ:St):Nat->List (Option Bx)->Prop->Prop
 |_,[],C=>C
 |b,none::r,C=>uC entry h skip σ (b+1) r C
 |b,some x::r,C=>if skip b then uC entry h skip σ (b+1) r C else
  match σ.bx.getD b none with
  |some y=>if y.arr == x.arr && self h b && (x.arr || x.cs.all (AV.fixed h)) then
    if entry then uC entry h skip σ (b+1) r C else y.cs=x.cs/\uC entry h skip σ (b+1) r C
   else False
  |none=>False
def KK (n:Nat) (keep D:List Nat) (p:Pat) (σ0 σ:St):Bool :=
 decide ((p.app.map (·.1)).Nodup) && decide (((xR n p σ).map (·.1)).Nodup) &&
 p.bgen.all (fun q=>self (p.zM n σ) q.1) &&
 keep.all (fun t=>D.contains t || (σ0.sl.getD t .undef).fixed (p.zM n σ))
def xH (D:List Nat) (p:Pat):Bool:=(p.gen.map (·.1)++p.app.map (·.1)).all (fun t=>D.contains t)
def Na (P:Program) (n:Nat) (keep D:List Nat) (p:Pat) (entry:Bool) (σ0 σ:St) (C:List AV->Prop):Prop :=
 if KK n keep D p σ0 σ then
  uC entry (p.zM n σ) (fun b=>(p.bgen.map (·.1)).contains b || (p.app.map fun q=>n+q.1).contains b || (xR n p σ0).any (fun q=>q.1 == b)) σ 0 σ0.bx <|
  match WD σ p.gen,YY σ0 σ p.bgen with
  |some gs,some bs=>uO P σ p.app fun ls=>C (xz gs ls bs)
  |_,_=>False
 else False
def XH (σ:St) (b off:Nat):AV:=match σ.bx.getD b none with
 |some x=>x.cs.getD off .undef
 |none=>.undef
def Xn (bx:List (Option Bx)) (b off:Nat) (v:AV):List (Option Bx):=match bx.getD b none with
 |some x=>bx.set b (some { x with cs:=x.cs.set off v })
 |none=>bx
def uE (q:Nat × Nat × TypeId) (σ:St):St:=⟨σ.sl++[XH σ q.1 q.2.1],Xn σ.bx q.1 q.2.1 .undef⟩
def jM:List (Nat × Nat × TypeId)->St->St
 |[],σ=>σ
 |q::r,σ=>jM r (uE q σ)
def Yh (q:Nat × Nat × TypeId) (τ:St):St:=⟨τ.sl.take (τ.sl.length-1),Xn τ.bx q.1 q.2.1 (τ.sl.getD (τ.sl.length-1) .undef)⟩
def wL:List (Nat × Nat × TypeId)->St->St
 |[],τ=>τ
 |q::r,τ=>Yh q (wL r τ)
def qI (L:Nat) (cap:List (Nat × Nat × TypeId)):List Nat:=(List.range cap.length).map (L+·)
def Pat.up (L:Nat) (p:Pat):Pat:={ p with app:=p.app++List.zipWith (fun t q=>(t,q.2.2)) (qI L p.cap) p.cap }
def Ny (h:Nat->Option Nat):List (Nat × Nat × TypeId)->St->Bool
 |[],_=>true
 |q::r,σ=>(match σ.bx.getD q.1 none with
  |some x=>!x.arr && (ql x.cs).isNone && decide (q.2.1<x.cs.length)
  |none=>false) && self h q.1 && Ny h r (uE q σ)
def qb (P:Program) (n:Nat) (keep D:List Nat) (p:Pat) (entry:Bool) (σ0 σ:St) (C:List AV->Prop):Prop :=
 let L:=σ0.sl.length
 if Ny ((p.up L).zM n (jM p.cap σ)) p.cap σ then Na P n (keep++qI L p.cap) (D++qI L p.cap) (p.up L) entry (jM p.cap σ0) (jM p.cap σ) C else False
def jI (P:Program) (n:Nat) (keep D:List Nat) (p:Pat) (σ:St) (C:List AV->St->Prop):Prop :=
 let L:=σ.sl.length
 Q5 P n (keep++qI L p.cap) (D++qI L p.cap) (p.up L) (jM p.cap σ) fun vs τ=>C vs (wL p.cap τ)
def GJ (σ:St) (b:Nat):Bool:=match σ.bx.getD b none with
 |some x=>x.mp.isSome
 |none=>false
def HB (n:Nat) (σ:St) (c:Nat):Nat :=
 if c<1000000 then n+c else if c<2000000 then c-1000000 else if c<3000000 then (match σ.sl.getD (c-2000000) .undef with
  |.ref b _=>b
  |.aslc b ..=>b
  |_=>1000000) else ((wo σ.z6 30 (AV.refs (σ.sl.getD (c-3000000) .undef)) []).find? (GJ σ)).getD 1000000
def Pat.res (n:Nat) (σ:St) (p:Pat):Pat:={ p with bgen:=(p.bgen.map fun q=>(HB n σ q.1,q.2)).filter fun q=>!(q.1 == 1000000),cap:=p.cap.map fun q=>(HB n σ q.1,q.2) }
def NU (P:Program) (n:Nat) (keep D:List Nat) (p:Pat) (f:St->(Ex->St->Prop)->Prop) (σ:St) (K:Ex->St->Prop):Prop :=
 if xH D p then ∃I:Nat->List AV->Prop,qb P n keep D p true σ σ (fun vs=>∃m,I m vs) /\
  ∀m:Nat,jI P n keep D p σ fun vs τ=>I m vs->f τ fun e σ1=>match e with
   |.normal=>qb P n keep D p false σ σ1 fun vs=>∃k,k<m/\I k vs
   |e=>K e σ1
 else False
def NQ (P:Program) (n:Nat) (keep D:List Nat) (p:Pat) (f g:St->(Ex->St->Prop)->Prop) (σ:St) (K:Ex->St->Prop):Prop :=
 if xH D p then ∃J:List AV->Prop,(f σ fun e σ1=>match e with
   |.normal=>qb P n keep D p false σ σ1 J
   |e=>K e σ1)/\jI P n keep D p σ fun vs τ=>J vs->g τ K
 else False
mutual
def AV.zZ:AV->AV
 |.map _=>.undef
 |.eptr cs o=>.eptr (AV.zo cs) o
 |.agg cs=>.agg (AV.zo cs)
 |v=>v
def AV.zo:List AV->List AV
 |[]=>[]
 |x::r=>x.zZ::AV.zo r
end
def jP (sl:List AV):List Nat->List AV->List AV
 |p::ps,x::xs=>jP (sl.set p x) ps xs
 |_,_=>sl
def St.more (σ:St) (k:Nat):St:=⟨σ.sl,σ.bx++List.replicate k none⟩
def yB:Code->Bool
 |.rangeFunc ..=>false
 |.seq a b | .cond _ a b=>yB a && yB b
 |.block _ b | .loop b | .scope b=>yB b
 |_=>true
def Qc:Operand->List Nat
 |.tmp t=>[t]
 |_=>[]
def YG (n:Nat) (ps:List Nat) (f:St->(Ex->St->Prop)->Prop) (K:Ex->St->Prop):List (List AV)->St->Prop
 |[],τ=>K .normal τ
 |x::r,τ=>if yp τ && decide (n<=τ.bx.length) then f ⟨jP τ.sl ps x,τ.bx++List.replicate τ.sl.length none⟩ fun e σ1=>if qA n τ.bx σ1.bx then (match e with
    |.normal=>YG n ps f K r ⟨τ.sl,σ1.bx⟩
    |e=>K e ⟨τ.sl,σ1.bx⟩) else False
   else False
def X3 (σ:St) (l:List AV):List Nat:=wo (fun b=>(σ.box b).map AV.zo) 30 (AV.zd (AV.zo l)) []
def S6 (P:Program) (S:Specs) (n:Nat) (keep cl:List Nat) (p:Pat) (g:Operand) (ps:List Nat) (f:St->(Ex->St->Prop)->Prop) (σ:St) (K:Ex->St->Prop):Prop :=
 match ev σ g with
 |.fn gf [] capz =>
  match (X3 σ capz).mapM (fun b=>σ.bx.getD b none) with
  |some bs =>
   if bs.all (fun x=>!x.arr && (AV.za x.cs).isEmpty) && (AV.za (AV.zo capz)).isEmpty && decide (X3 σ capz).Nodup && decide (p.yl.length=ps.length) && xH [] p then
    ∃xs:List (List AV),S.seq gf (AV.zb (AV.zh (idx · (X3 σ capz)) (AV.zo capz))) (bs.map fun x=>AV.zb (AV.zh (idx · (X3 σ capz)) (AV.zo x.cs))) xs /\
     (let σ0:St:=⟨(Qc g++cl).foldl (fun l t=>l.set t .undef) σ.sl,UC σ.bx fun b x=>if (X3 σ capz).contains b then none else x⟩
      if p.un.any List.isEmpty=true then
      (∀x∈xs,qZ p.yl x=true/\AV.zi x=true)/\(xs=[]->K .normal σ0) /\
      let p:=p.res n σ0
      ∃I:Nat->List AV->Prop,(YQ p.yl fun x=>xs[0]? = some x ->
       if yp σ0 && decide (n<=σ0.bx.length) then f ⟨jP σ0.sl ps x,σ0.bx++List.replicate σ0.sl.length none⟩ fun e σ1=>if qA n σ0.bx σ1.bx then (match e with
        |.normal=>qb P n keep [] p false σ0 ⟨σ0.sl,σ1.bx⟩ (I 1)
        |e=>K e ⟨σ0.sl,σ1.bx⟩) else False
       else False) /\
       (∀i:Nat,YQ p.yl fun x=>xs[i+1]? = some x->jI P n keep [] p σ0 fun vs τ=>I (i+1) vs ->
       if yp τ && decide (n<=τ.bx.length) then f ⟨jP τ.sl ps x,τ.bx++List.replicate τ.sl.length none⟩ fun e σ1=>if qA n τ.bx σ1.bx then (match e with
        |.normal=>qb P n keep [] p false σ0 ⟨τ.sl,σ1.bx⟩ (I (i+2))
        |e=>K e ⟨τ.sl,σ1.bx⟩) else False
       else False) /\
       jI P n keep [] p σ0 fun vs τ=>I xs.length vs->K .normal τ
      else
      if p.un.isEmpty=false then ((p.un.all fun x=>AV.zi x && x.length == ps.length)=true/\xs=p.un)/\YG n ps f K p.un σ0 else
      (∀x∈xs,qZ p.yl x=true/\AV.zi x=true) /\
      let p:=p.res n σ0
      ∃I:Nat->List AV->Prop,qb P n keep [] p true σ0 σ0 (I 0) /\
      (∀i:Nat,YQ p.yl fun x=>xs[i]? = some x->jI P n keep [] p σ0 fun vs τ=>I i vs ->
       if yp τ && decide (n<=τ.bx.length) then f ⟨jP τ.sl ps x,τ.bx++List.replicate τ.sl.length none⟩ fun e σ1=>if qA n τ.bx σ1.bx then (match e with
        |.normal=>qb P n keep [] p false σ0 ⟨τ.sl,σ1.bx⟩ (I (i+1))
        |e=>K e ⟨τ.sl,σ1.bx⟩) else False
       else False) /\
      jI P n keep [] p σ0 fun vs τ=>I xs.length vs->K .normal τ)
   else False
  |none=>False
 |_=>False
end
def qO (P:Program) (S:Specs) (ctl:Ctl):Code->Nat->St->(Ex->St->Prop)->Prop
 |.skip,_,σ,K=>K .normal σ
 |.region id ops false,n,σ,K=>qp n (ctl.zC id) σ fun σ=>if KW P ops.toList then uf P S n ops.toList none σ fun σ=>Yv ctl.keep σ (K .normal) else w8 P S n (qi ops.toList) ops.toList σ fun σ=>Yv ctl.keep σ (K .normal)
 |.region id ops true,n,σ,K=>qp n (ctl.zC id) σ fun σ=>kh (zaz S.frs ops ops.size (List.range ops.size) []) fun ord=>if (ud S.frs ops).all (fun d=>vG n d σ) && T9 ops ord then TG P S n ops ord σ fun σ=>Yv ctl.keep σ (K .normal) else False
 |.seq a b,n,σ,K=>match N2 ctl.joins (wP b) with
  |some p=>NQ P n ctl.keep (ctl.dsts a) (p.res n σ) (fun σ K'=>qO P S ctl a n σ fun e σ=>match e with
    |.normal=>qp n (ctl.zC (p.id+5000000)) σ fun σ=>K' .normal σ
    |e=>K' e σ) (qO P S ctl b n) σ K
  |none=>qO P S ctl a n σ fun e σ=>match e with
   |.normal=>qO P S ctl b n σ K
   |e=>K e σ
 |.cond c a b,n,σ,K=>match ev σ c with
  |.tt=>qO P S ctl a n σ K
  |.ff=>qO P S ctl b n σ K
  |.bool x=>br x (qO P S ctl a n σ K) (qO P S ctl b n σ K)
  |_=>False
 |.block id b,n,σ,K=>qO P S ctl b n σ fun e σ=>match e with
  |.exit i=>if i=id then K .normal σ else K (.exit i) σ
  |e=>K e σ
 |.loop b,n,σ,K=>match N2 ctl.loops (wP b) with
  |some p=>NU P n ctl.keep (ctl.dsts b) (p.res n σ) (qO P S ctl b n) σ K
  |none=>Pd (qO P S ctl b n) 13 σ K
 |.exit id,_,σ,K=>K (.exit id) σ
 |.ret,_,σ,K=>K .ret σ
 |.rangeFunc g ps a b,n,σ,K=>match N2 ctl.loops (wP b) with
  |some p=>if yB a && yB b then S6 P S n ctl.keep ((ctl.fz.filter fun q=>decide (q.2<1000000000)).map fun q=>q.2 % 1000000) p g ps.toList (fun τ K'=>qO P S ctl a (τ.bx.length-τ.sl.length) τ fun e σa=>match e with
    |.normal=>if yp σa && (List.range (τ.bx.length-τ.sl.length)).all (fun b=>qh τ.bx b == qh σa.bx b) then qO P S ctl b σa.bx.length (σa.more (σa.sl.length+8)) K' else False
    |_=>False) σ K else False
  |none=>False
 |_,_,_,_=>False
abbrev awp (P:Program) (S:Specs) (n:Nat) (ctl:Ctl) (c:Code) (σ:St) (K:Ex->St->Prop):Prop:=qO P S ctl c n σ K
section
variable (P:Program) (S:Specs) (n:Nat)
mutual
def AV.sub (fr:Nat->Nat->AV) (fa:Nat->Nat->Nat->Nat->Bool->AV):AV->AV
 |.ref b off=>fr b off
 |.aslc b off len esz ag=>fa b off len esz ag
 |.map b=>match fr b 0 with
  |.ref i _=>.map i
  |_=>.undef
 |.fn g a b=>.fn g (AV.zy fr fa a) (AV.zy fr fa b)
 |.iface t v=>.iface t (v.sub fr fa)
 |.eptr cs off=>.eptr (AV.zy fr fa cs) off
 |.agg cs=>.agg (AV.zy fr fa cs)
 |.tup cs=>.tup (AV.zy fr fa cs)
 |v=>v
def AV.zy (fr:Nat->Nat->AV) (fa:Nat->Nat->Nat->Nat->Bool->AV):List AV->List AV
 |[]=>[]
 |x::r=>x.sub fr fa::AV.zy fr fa r
end
def IA (m:Nat) (σ:St) (g:AV->AV) (b off:Nat):AV :=
 if b<m then .ref b off else
  match σ.bx.getD b none with
  |some x=>if x.arr || (ql x.cs).isSome then .undef else if AV.zi (x.cs.map g) then .eptr (AV.zb (x.cs.map g)) off else .undef
  |none=>.undef
def Iz (m:Nat) (σ:St):Nat->AV->AV
 |0=>AV.sub (fun b off=>if b<m then .ref b off else .undef) (fun _ _ _ _ _=>.undef)
 |k+1=>AV.sub (IA m σ (Iz m σ k)) (fun _ _ _ _ _=>.undef)
def frz (m:Nat) (σ:St):AV->AV :=
 AV.sub (IA m σ (Iz m σ 3))
  (fun b off len esz ag=>match σ.zg b with
   |some cs=>if b<m then .undef else .slc 3 (chunks esz ag len (cs.drop off))
   |none=>.undef)
def NR (m b:Nat):Option Nat:=if b<m then some b else none
def Tp (σ:St):ResultVar->Option AV
 |.tmp t=>some (σ.sl.getD t .undef)
 |.cell a t=>match σ.sl.getD a .undef with
  |.ref b off=>match σ.box b with
   |some cs=>if (ql cs).isSome then none else kx P t cs off
   |none=>none
  |.eptr cs off=>kx P t cs off
  |_=>none
def Xu:List AV->AV
 |[v]=>v
 |vs=>.tup vs
def I1 (fn:Func) (σ:St) (Q:AV->List (List AV)->Prop):Prop :=
 match fn.results.toList.mapM (Tp P σ) with
 |some vs =>
  match (List.range n).mapM σ.box with
  |some O=>if (O.all (fun cs=>vh cs (cs.map (frz n σ))) && (List.range n).all (fun b=>match σ.bx.getD b none with | some x=>!x.arr | none=>true))=false then False else q8 σ.zg (AV.za vs++AV.za (O.flatMap id)) <| Q (((frz n σ (Xu vs)).zj (NR n)).zD) (O.map fun cs=>AV.zb (AV.zh (NR n) (cs.map (frz n σ))))
  |none=>False
 |none=>False
def XS (fn:Func) (args:List AV) (boxes:List Bx):St :=
 ⟨args++List.replicate (fn.ntmps-args.length) .undef,boxes.map some++List.replicate (fn.ntmps+8) none⟩
def H7 (ctl:Ctl) (fn:Func) (args:List AV) (boxes:List Bx) (Q:AV->List (List AV)->Prop):Prop :=
 match fn.body with
 |some c=>awp P S n ctl c (XS fn args boxes) fun e σ=>match e with
  |.normal | .ret=>I1 P n fn σ Q
  |_=>False
 |none=>False
def MK (f:FuncId) (args:List AV) (σ:St) (K:AV->St->Prop):Prop :=
 match S.frs.il.lookup f,P.funcs[f]? with
 |some ctl,some fn=>match fn.body with
  |some c=>if decide (args.length<=fn.ntmps) && yp ⟨σ.sl++args,σ.bx⟩ then
    awp P S σ.bx.length ctl c ⟨args++List.replicate (fn.ntmps-args.length) .undef,σ.bx++List.replicate (fn.ntmps+8) none⟩ fun e τ=>match e with
     |.normal | .ret=>match fn.results.toList.mapM (Tp P τ) with
      |some vs=>K (Xu vs) ⟨σ.sl,τ.bx⟩
      |none=>False
     |_=>False
   else False
  |none=>False
 |_,_=>False
def mkS (sp:SpecF) (fr:FuncId->List AV->Nat->List AV->Prop) (sq:FuncId->List AV->List (List AV)->List (List AV)->Prop) (w:Ways):Nat->Specs
 |0=>⟨sp,fr,w,fun _ _ _ _=>False,sq⟩
 |k+1=>⟨sp,fr,w,MK P (mkS sp fr sq w.inner k),sq⟩
end
end Go.Proofs.YtkojpnkknehhmaaGreatDoor
