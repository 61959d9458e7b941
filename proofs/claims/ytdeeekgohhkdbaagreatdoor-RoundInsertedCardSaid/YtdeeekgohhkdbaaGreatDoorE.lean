/- The evaluator: what a piece of code does with abstract values, in the order of the text, as a statement in continuation style. Nothing here speaks of one program. -/
import Derived.Test.YtdeeekgohhkdbaaGreatDoorGl
import Derived.MapKept
import Derived.DeepKeys3
namespace Go.Proofs.YtdeeekgohhkdbaaGreatDoor
open Go.RowKit

abbrev yi (l:List AV):Prop:=l=l
structure Bx where
 ty:TypeId
 arr:Bool
 cs:List AV
def Bx.refs (x:Bx):List Nat:=if x.arr then [] else AV.zd x.cs
def kS:AV->Option (List AV)
 | .iface t (.slc _ es)=>if t=1000000 then some es else none
 | _=>none
def qf:List AV->Option (List AV)
 | [x]=>kS x
 | _=>none
def Bx.mp (x:Bx):Option (List AV):=if x.arr then none else qf x.cs
def xm (cs cs':List AV):Bool:=(qf cs).isSome || (qf cs').isNone
structure St where
 sl:List AV
 bx:List (Option Bx)

def xH {α β:Type} (f:Nat->α->β):Nat->List α->List β
 | _,[]=>[]
 | i,x::r=>f i x::xH f (i+1) r
def Wt {α β:Type} (l:List α) (f:Nat->α->β):List β:=xH f 0 l
theorem Qp {α β:Type} (f:Nat->α->β):∀ (l:List α) (i j:Nat),(xH f i l)[j]?=(l[j]?).map (f (i+j)):=by
 intro l
 induction l with
 | nil=>intro i j; rfl
 | cons x r ih =>
  intro i j
  cases j with
  | zero=>rfl
  | succ j=>simp only [xH,List.getElem?_cons_succ,ih]; rw [show i+1+j=i+(j+1) by omega]
theorem wz {α β:Type} {l:List α} {f:Nat->α->β} {j:Nat}:(Wt l f)[j]?=(l[j]?).map (f j):=by
 unfold Wt; rw [Qp,Nat.zero_add]
theorem uL {α β:Type} {l:List α} {f:Nat->α->β}:(Wt l f).length=l.length:=by
 have:∀ (l:List α) (i:Nat),(xH f i l).length=l.length:=by
  intro l
  induction l with
  | nil=>intro i; rfl
  | cons x r ih=>intro i; simp only [xH,List.length_cons,ih]
 exact this l 0

def St.put (Z:St) (d:Option Nat) (v:AV):St :=
 match d with
 | some d=>{ Z with sl:=Z.sl.set d v }
 | none=>Z
def St.box (Z:St) (b:Nat):Option (List AV):=(Z.bx.getD b none).map (·.cs)

def St.zU (Z:St) (b:Nat):Option (List AV) :=
 match Z.bx.getD b none with
 | some x=>if x.arr then some [] else some x.cs
 | none=>none
def St.zh (Z:St) (b:Nat):Option (List AV) :=
 match Z.bx.getD b none with
 | some x=>if x.mp.isSome then none else if x.arr then some x.cs else if AV.zi x.cs then some (AV.zb x.cs) else none
 | none=>none
def ofV1:Value->AV
 | .bool true=>.tt
 | .bool false=>.ff
 | .int k n=>.lit k n
 | .string s=>.str s
 | .pointer none=>.nilp
 | .slice none 0 0=>.slc 0 []
 | .map none=>.nilmap
 | .nilFunc=>.nilfn
 | .nilIface=>.nilif
 | _=>.undef
def ofV:Value->AV
 | .agg cs=>.agg (cs.toList.map ofV1)
 | v=>ofV1 v
def ev (Z:St):Operand->AV
 | .tmp t=>Z.sl.getD t .undef
 | .const v=>ofV v
 | .global g=>match Vu g with
  | some cs=>.eptr cs 0
  | none=>.undef
 | .func f=>.fn f [] []

def AV.zR:AV->Option Bool
 | .tt=>some true
 | .ff=>some false
 | .bool b=>some b
 | _=>none
def AV.zr:AV->Option (IntKind × Int × Bool)
 | .lit k n=>some (k,n,true)
 | .int k n=>some (k,n,false)
 | _=>none
def mkI (k:IntKind) (n:Int) (known:Bool):AV:=if known then .lit k n else .int k n
def mkB (b:Bool) (known:Bool):AV:=if known then (if b then .tt else .ff) else .bool b
def yw (l:List AV):Bool:=l.all AV.one

def yk (P:Program) (t:TypeId):Bool :=
 match P.underlying t with
 | some (.struct _) | some (.array _ _)=>true
 | _=>false
def kG (P:Program) (t:TypeId) (cs:List AV) (off:Nat):Option AV :=
 match P.underlying t with
 | some (.struct _) | some (.array _ _)=>if off+P.cellsOf t<=cs.length then some (.agg ((cs.drop off).take (P.cellsOf t))) else none
 | some _=>cs[off]?
 | none=>none
def setCells (cs:List AV) (off:Nat) (vs:List AV):List AV:=cs.take off++(vs++cs.drop (off+vs.length))

def AV.zl:AV->Bool
 | .undef | .tup _=>false
 | _=>true
def wH (P:Program) (t:TypeId):Option AV :=
 match (P.info? t).bind (·.zero) with
 | some z=>if (ofV z).zl then some (ofV z) else none
 | none=>none

def uB (place:Nat->Option (Nat × Nat)):List AV->List (Nat × AV)->Option (List AV)
 | cs,[]=>some cs
 | cs,(i,v)::r =>
  match place i with
  | none=>none
  | some (off,size)=>if v.zl=false\/v.cells.length≠size\/off+v.cells.length>cs.length then none else uB place (setCells cs off v.cells) r

def vm (eq:TypeId->AV->AV->Option Bool) (P:Program) (xs ys:List AV):List Field->Option Bool
 | []=>some true
 | f::r =>
  if f.name ≠ "_" then
   match kG P f.type xs f.offset,kG P f.type ys f.offset with
   | some a,some b =>
    match eq f.type a b,vm eq P xs ys r with
    | some x,some y=>some (x && y)
    | _,_=>none
   | _,_=>none
  else vm eq P xs ys r
def Xb (eq:AV->AV->Option Bool) (P:Program) (e:TypeId) (xs ys:List AV):Nat->Nat->Option Bool
 | _,0=>some true
 | i,n+1 =>
  match kG P e xs (i*P.cellsOf e),kG P e ys (i*P.cellsOf e) with
  | some a,some b =>
   match eq a b,Xb eq P e xs ys (i+1) n with
   | some x,some y=>some (x && y)
   | _,_=>none
  | _,_=>none
def AV.zB:AV->Bool
 | .slc 0 []=>true
 | _=>false
def AV.zV:AV->Option Bool
 | .slc 0 []=>some true
 | .slc _ (_::_)=>some false
 | .aslc _ _ (_+1) _ _=>some false
 | _=>none
def eqA (P:Program):Nat->TypeId->AV->AV->Option Bool
 | 0,_,_,_=>none
 | d+1,t,x,y =>
  match P.underlying t with
  | some .bool=>match x.zR,y.zR with | some a,some b=>some (a == b) | _,_=>none
  | some (.int _)=>match x.zr,y.zr with | some (k,a,_),some (k',b,_)=>if k=k' then some (a == b) else none | _,_=>none
  | some .string=>match x,y with | .str a,.str b=>some (a.toList == b.toList) | _,_=>none
  | some (.pointer _)=>match x,y with
   | .nilp,.nilp=>some true
   | .nilp,.eptr .. | .nilp,.ref .. | .eptr ..,.nilp | .ref ..,.nilp=>some false
   | _,_=>none
  | some (.interface _)=>match x,y with
   | .nilif,.iface .. | .iface ..,.nilif=>some false
   | _,_=>none
  | some (.func ..)=>match x,y with
   | .nilfn,.nilfn=>some true
   | .nilfn,.fn .. | .fn ..,.nilfn=>some false
   | _,_=>none
  | some (.slice _)=>if x.zB then y.zV else if y.zB then x.zV else none
  | some (.struct fs)=>match x,y with
   | .agg xs,.agg ys=>if P.stoodInHeld t then none else vm (eqA P d) P xs ys fs.toList
   | _,_=>none
  | some (.array n e)=>match x,y with
   | .agg xs,.agg ys=>if (P.underlying e).isNone then none else Xb (eqA P d e) P e xs ys 0 n
   | _,_=>none
  | _=>none
def NU:BinOp->Option Bool
 | .eql=>some true
 | .neq=>some false
 | _=>none
def M7 (op:BinOp) (k:IntKind) (a b:Int) (l:Bool):Option AV :=
 match op with
 | .add=>some (mkI k (k.wrap (a+b)) l)
 | .sub=>some (mkI k (k.wrap (a-b)) l)
 | .mul=>some (mkI k (k.wrap (a*b)) l)
 | .and=>some (mkI k (k.wrap (BitVec.ofInt k.bits a &&& BitVec.ofInt k.bits b).toNat) l)
 | .or=>some (mkI k (k.wrap (BitVec.ofInt k.bits a ||| BitVec.ofInt k.bits b).toNat) l)
 | .xor=>some (mkI k (k.wrap (BitVec.ofInt k.bits a ^^^ BitVec.ofInt k.bits b).toNat) l)
 | .andNot=>some (mkI k (k.wrap (BitVec.ofInt k.bits a &&& ~~~ BitVec.ofInt k.bits b).toNat) l)
 | .eql=>some (mkB (a == b) l)
 | .neq=>some (mkB (a != b) l)
 | .lss=>some (mkB (decide (a<b)) l)
 | .leq=>some (mkB (decide (a<=b)) l)
 | .gtr=>some (mkB (decide (a>b)) l)
 | .geq=>some (mkB (decide (a>=b)) l)
 | _=>none
def qP:Operand->Bool
 | .const .nilIface=>true
 | _=>false
def Qe (P:Program) (t:TypeId):Bool :=
 match P.underlying t with
 | some (.interface _)=>true
 | _=>false
def AV.cmp:AV->Bool
 | .tt | .ff | .bool _ | .nilp | .eptr .. | .ref .. | .slc .. | .aslc .. | .fn .. | .nilfn | .iface .. | .nilif=>true
 | _=>false
def Nl (P:Program) (op:BinOp) (t:TypeId) (c:Bool) (x y:AV):Option AV :=
 match x.zr,y.zr with
 | some (k,a,l),some (k',b,l')=>if k=k' then M7 op k a b (l && l') else none
 | _,_ =>
  match x,y,op with
  | .str a,.str b,.eql=>some (.bool (a.toList == b.toList))
  | .str a,.str b,.neq=>some (.bool (!(a.toList == b.toList)))
  | .str a,.str b,.lss=>some (.bool (Op.bytesLess a.toList b.toList))
  | .str a,.str b,.leq=>some (.bool (Op.bytesLess a.toList b.toList || a.toList == b.toList))
  | .str a,.str b,.gtr=>some (.bool (!(Op.bytesLess a.toList b.toList || a.toList == b.toList)))
  | .str a,.str b,.geq=>some (.bool (!Op.bytesLess a.toList b.toList))
  | .str _,.str _,_=>none
  | .nilif,.nilif,op=>if c && Qe P t then (NU op).map fun e=>if e then .tt else .ff else none
  | .agg xs,.agg ys,op =>
   if P.eqGuardType P.depth t then none else
   match NU op,eqA P 12 t (.agg xs) (.agg ys) with
   | some e,some b=>some (.bool (if e then b else !b))
   | _,_=>none
  | x,y,op =>
   if x.cmp && y.cmp then
    match NU op,eqA P 12 t x y with
    | some e,some b=>some (match x.zR,y.zR with | some _,some _=>.bool (if e then b else !b) | _,_=>mkB (if e then b else !b) true)
    | _,_=>none
   else none
def Kb (gt:Bool):AV->List AV->Option AV
 | x,[]=>some x
 | x,y::r =>
  match x.zr,y.zr with
  | some (k,a,l),some (_,b,l')=>Kb gt (mkI k (if gt then (if b>a then b else a) else (if b<a then b else a)) (l && l')) r
  | _,_=>none

def jr (P:Program) (e:Operand->AV):Op->Option AV
 | .move x | .assign x=>some (e x)
 | .pick c a b =>
  match e c with
  | .tt=>some (e a)
  | .ff=>some (e b)
  | .bool x=>match (e a).zR,(e b).zR with
   | some y,some z=>some (.bool (if x then y else z))
   | _,_=>none
  | _=>none
 | .build t ps =>
  match P.info? t,P.underlying t with
  | some it,some (.array _ el) =>
   match it.zero,P.info? el with
   | some z,some ie=>if (ofV z).zl then (uB (fun i=>some (i*ie.size,ie.size)) (ofV z).cells (ps.toList.map fun p=>(p.1,e p.2))).map .agg else none
   | _,_=>none
  | some it,some (.struct fs) =>
   match it.zero,fs.toList.mapM (fun f=>(P.info? f.type).map fun i=>(f.offset,i.size)) with
   | some z,some places=>if (ofV z).zl then (uB (places.toArray[·]?) (ofV z).cells (ps.toList.map fun p=>(p.1,e p.2))).map .agg else none
   | _,_=>none
  | _,_=>none
 | .field t x f =>
  match P.underlying t,e x with
  | some (.struct fs),.agg cs=>match fs[f]? with
   | some fd=>kG P fd.type cs fd.offset
   | none=>none
  | _,_=>none
 | .extract x i=>match e x with | .tup vs=>vs[i]? | _=>none
 | .makeInterface t x=>match P.underlying t with | some (.interface _) | none=>none | some _=>some (.iface t (e x))
 | .makeFunc (.func f) first caps=>some (.fn f (first.toList.map e) (caps.toList.map e))
 | .convert s d x=>match P.underlying s,P.underlying d,(e x).zr with
  | some _,some (.int k),some (_,n,l)=>some (mkI k (k.wrap n) l)
  | _,_,_=>none
 | .unOp .not _ x=>match e x with
  | .tt=>some .ff
  | .ff=>some .tt
  | .bool b=>some (.bool !b)
  | _=>none
 | .unOp .neg _ x=>match (e x).zr with
  | some (k,n,l)=>some (mkI k (k.wrap (0-n)) l)
  | none=>none
 | .unOp .xor _ x=>match (e x).zr with
  | some (k,n,l)=>some (mkI k (k.wrap (BitVec.ofInt k.bits (if k.signed then -1 else k.max) ^^^ BitVec.ofInt k.bits n).toNat) l)
  | none=>none
 | .binOp op t x y _ =>
  match op with
  | .quo | .rem | .shl | .shr=>none
  | _=>Nl P op t (qP x || qP y) (e x) (e y)
 | .nilCheck x=>match e x with
  | .ref b off=>some (.ref b off)
  | .eptr cs off=>some (.eptr cs off)
  | .iface t v=>some (.iface t v)
  | .fn f a b=>some (.fn f a b)
  | _=>none
 | .fieldAddr s x f =>
  match P.underlying s with
  | some (.struct fs)=>match fs[f]? with
   | some fd=>if P.cellsOf fd.type=0\/(P.underlying fd.type).isNone then none else
    match e x with
    | .ref b off=>some (.ref b (off+fd.offset))
    | .eptr cs off=>some (.eptr cs (off+fd.offset))
    | _=>none
   | none=>none
  | _=>none
 | .typeAssert x _ t ok =>
  match P.underlying t,e x with
  | some (.interface _),_ | none,_=>none
  | some _,.iface t' v=>if t'=t then some (if ok then .tup [v,.tt] else v) else (if ok then (wH P t).map fun z=>.tup [z,.ff] else none)
  | some _,.nilif=>if ok then (wH P t).map fun z=>.tup [z,.ff] else none
  | _,_=>none
 | .call c =>
  match c.callee,(c.args.toList.map e) with
  | .builtin .len,[x]=>match (c.argTypes[0]?).bind P.underlying,x with
   | some (.slice _),.slc m es=>some (mkI .i64 es.length (m == 4))
   | some (.slice _),.aslc _ _ len _ _=>some (.int .i64 len)
   | some .string,.str s=>some (.int .i64 s.size)
   | some (.array n _),_=>some (.lit .i64 n)
   | _,_=>none
  | .builtin .max,x::r=>Kb true x r
  | .builtin .min,x::r=>Kb false x r
  | _,_=>none
 | _=>none

def ju (P:Program):Nat->TypeId->(List AV->Prop)->Prop
 | 0,_,_=>False
 | d+1,t,K =>
  match P.underlying t with
  | some .bool=>∃ b:Bool,K [.bool b]
  | some (.int k)=>∃ n:Int,K [.int k n]
  | some .string=>∃ s:ByteArray,K [.str s]
  | some (.slice _)=>∃ es:List AV,K [.slc 3 es]
  | some (.struct fs)=>fs.toList.foldr (fun f k acc=>ju P d f.type fun cs=>k (acc++cs)) K []
  | some (.array n e)=>Nat.rec (motive:=fun _=>List AV->Prop) K (fun _ k acc=>ju P d e fun cs=>k (acc++cs)) n []
  | _=>∃ v:AV,K [v]
def exT (P:Program) (t:TypeId) (K:AV->Prop):Prop :=
 ju P 8 t fun cs=>K (if yk P t then .agg cs else cs.getD 0 .undef)
def Ly (P:Program):List TypeId->(AV->Prop)->Prop
 | [],K=>K (.tup [])
 | [t],K=>exT P t K
 | ts,K=>ts.foldr (fun t k acc=>exT P t fun v=>k (acc++[v])) (fun vs=>K (.tup vs)) []

def br (b:Bool) (A B:Prop):Prop:=(b=true->A)/\(b=false->B)
def Sd (j:Int) (F:Nat->Prop):Nat->Prop
 | 0=>True
 | n+1=>(j=(n:Int)->F n)/\Sd j F n
def TR (n:Nat) (i:AV) (F:Nat->Prop):Prop :=
 match i.zr with
 | some (_,j,true)=>if 0<=j/\j<n then F j.toNat else False
 | some (_,j,false)=>(0<=j/\j<n)/\Sd j F n
 | none=>False

def v8 (b:Nat) (Z:St):Bool :=
 !(AV.zd Z.sl).contains b && Z.bx.all fun | some x=>!x.refs.contains b | none=>true
def qI (n d:Nat) (x:Bx) (p:AV) (Z:St) (K:St->Prop):Prop :=
 if x.mp.isNone && v8 (n+d) { sl:=Z.sl.set d .undef,bx:=Z.bx.set (n+d) none } && !x.refs.contains (n+d) && decide (d<Z.sl.length) && decide (n+d<Z.bx.length) then K { sl:=Z.sl.set d p,bx:=Z.bx.set (n+d) (some x) } else False

def kI (bx:Nat->Option (List AV)):Nat->List Nat->List Nat->List Nat
 | 0,_,seen=>seen
 | _+1,[],seen=>seen
 | k+1,b::r,seen =>
  if seen.contains b then kI bx k r seen else
  match bx b with
  | none=>kI bx k r seen
  | some cs=>kI bx k (AV.zd cs++r) (seen++[b])

structure Pat where
 id:Nat
 gen:List (Nat × AV)
 app:List (Nat × TypeId)
 bgen:List (Nat × AV)
 cap:List (Nat × Nat × TypeId):=[]
 yl:List AV:=[]
 un:List (List AV):=[]
structure Ctl where
 keep:List Nat
 loops:List Pat
 joins:List Pat
 fz:List (Nat × Nat)
abbrev yj:=AV->List (List AV)->Prop
abbrev iN (n:Int):AV:=.int .i64 n
abbrev SpecF:=FuncId->List AV->List (List AV)->AV->List (List AV)->Prop
abbrev FreshF:=FuncId->List AV->Nat->List AV->Prop
abbrev SeqF:=FuncId->List AV->List (List AV)->List (List AV)->Prop
structure Ways where
 fr:List FuncId
 alts:List (FuncId × List AV)
 ro:List FuncId:=[]
 il:List (FuncId × Ctl):=[]
 ow:List Nat:=[]
def Ways.zt (w:Ways) (f:FuncId):Option Ctl:=if w.ro.contains 995000000 && w.ro.contains (f+996000000) then none else w.il.lookup f
def Ways.inner (w:Ways):Ways:={ w with ro:=995000000::w.ro }
mutual
def exV:AV->(AV->Prop)->Prop
 | .int k _,K=>∃ n:Int,K (.int k n)
 | .bool _,K=>∃ b:Bool,K (.bool b)
 | .str _,K=>∃ s:ByteArray,K (.str s)
 | .slc _ _,K=>∃ es:List AV,K (.slc 3 es)
 | .iface t v,K=>exV v fun v=>K (.iface t v)
 | .agg cs,K=>exL cs fun cs=>K (.agg cs)
 | .tup cs,K=>exL cs fun cs=>K (.tup cs)
 | .fn f a c,K=>exL a fun a=>exL c fun c=>K (.fn f a c)
 | .eptr cs off,K=>exL cs fun cs=>K (.eptr cs off)
 | .undef,K=>∃ v:AV,K v
 | v,K=>K v
def exL:List AV->(List AV->Prop)->Prop
 | [],K=>K []
 | x::r,K=>exV x fun v=>exL r fun l=>K (v::l)
end
def exX:AV->(AV->Prop)->Prop
 | .tup [.nilmap,.nilp],K=>∃ es:List AV,K (.slc 2 es)
 | .tup [.nilmap,v],K=>K v
 | x,K=>exV x K
def exO:List AV->(AV->Prop)->Prop
 | [],_=>False
 | [x],K=>exX x K
 | x::r,K=>exX x K\/exO r K
def exE (P:Program) (w:Ways) (t:TypeId) (K:AV->Prop):Prop :=
 match w.alts.lookup (1000000+t) with
 | some l=>exO l K
 | none=>exT P t K
def Xc (P:Program) (w:Ways) (f:FuncId) (ts:List TypeId) (K:AV->Prop):Prop :=
 match w.alts.lookup f with
 | some l=>exO l K
 | none=>Ly P ts K
abbrev vJ:=FuncId->List AV->St->(AV->St->Prop)->Prop
structure Specs where
 spec:SpecF
 fresh:FuncId->List AV->Nat->List AV->Prop
 frs:Ways
 inl:vJ
 seq:FuncId->List AV->List (List AV)->List (List AV)->Prop

def EC (P:Program) (t:TypeId):Bool :=
 match P.underlying t with
 | some (.pointer _) | some (.func ..) | some (.map ..)=>true
 | _=>false
def Qi:List AV->List AV->List AV
 | .eptr c o::r,_::s=>.eptr c o::Qi r s
 | _::r,y::s=>y::Qi r s
 | _,s=>s
def Uy (P:Program) (x:Bx) (K:List AV->Prop):Prop :=
 if (qf x.cs).isSome then ∃ es:List AV,K [.iface 1000000 (.slc 3 es)] else
 if EC P x.ty then match x.cs with
  | [.ref b o]=>K [.ref b o]
  | [.map b]=>K [.map b]
  | [.fn f a c]=>K [.fn f a c]
  | _=>ju P 8 x.ty K
 else ju P 8 x.ty fun l=>K (Qi x.cs l)
def wo (k:Nat->Bool) (P:Program):Nat->List Bx->(List (List AV)->Prop)->Prop
 | _,[],K=>K []
 | i,x::r,K=>if k i then wo k P (i+1) r fun l=>K (x.cs::l) else Uy P x fun cs=>wo k P (i+1) r fun l=>K (cs::l)
def wq (ro:Bool) (k:Nat->Bool) (P:Program) (bs:List Bx) (K:List (List AV)->Prop):Prop:=if ro then K (bs.map (·.cs)) else wo k P 0 bs K
def idx (b:Nat):List Nat->Option Nat
 | []=>none
 | x::r=>if x=b then some 0 else (idx b r).map (·+1)
def yR (B:List Nat) (O:List (List AV)) (kill:List Nat) (bx:List (Option Bx)):List (Option Bx) :=
 Wt bx fun b x=>if kill.contains b then none else
  match idx b B with
  | some i=>x.map fun y=>{ y with cs:=AV.zg (B[·]?) (O.getD i []) }
  | none=>x
def q6 (bx:Nat->Option (List AV)):List (Nat × Nat × Nat × Bool)->Prop->Prop
 | [],K=>K
 | (b,m,esz,ag)::r,K=>match bx b with
  | some cs=>if ag then m<=cs.length/\q6 bx r K else if esz=1 then (m<=cs.length/\yw cs=true)/\q6 bx r K else False
  | none=>q6 bx r K
def jC (P:Program) (S:Specs) (n:Nat) (f:FuncId) (args:List AV) (d:Option Nat) (Z:St) (K:St->Prop):Prop :=
 let sn:=Z.zh
 let B:=kI (fun b=>(Z.box b).map (AV.ze sn)) 30 (AV.zd (AV.ze sn args)) []
 match B.mapM (fun b=>Z.bx.getD b none),P.funcs[f]? with
 | some bs,some fn =>
  let asl:=AV.za args++AV.za (bs.flatMap (·.cs))
  let snaps:=asl.map (·.1)
  if bs.any (·.arr) || snaps.any (B.contains ·) || !decide B.Nodup || bs.any (fun x=>!xm x.cs (AV.ze sn x.cs)) then False else
  q6 sn asl <|
  Xc P S.frs f fn.resultTypes.toList fun v=>wq (S.frs.ro.contains f) (fun i=>S.frs.ro.contains (f+1000000*(i+1))) P (bs.map fun x=>{ x with cs:=AV.zb (AV.zg (idx · B) (AV.ze sn x.cs)) }) fun O' =>
   S.spec f (AV.zb (AV.zg (idx · B) (AV.ze sn args))) (bs.map fun x=>AV.zb (AV.zg (idx · B) (AV.ze sn x.cs))) v O' /\
   (if v.plain && O'.all AV.zq then K ({ Z with bx:=yR B O' [] Z.bx }.put d (v.zj (B[·]?)))
    else if snaps.all (n<=·) then K ({ Z with bx:=yR B O' snaps Z.bx }.put d (v.zj (B[·]?))) else False)
 | _,_=>False

def wv:AV->Bool
 | .tt | .ff | .bool _ | .lit .. | .int .. | .str _=>true
 | _=>false
def vS:List Bx->List (List AV)->Prop->Prop
 | x::r,cs::s,K=>if x.arr then cs.all wv=true/\vS r s K else vS r s K
 | _,_,K=>K
def kv (k:Nat->Bool) (P:Program):Nat->List Bx->(List (List AV)->Prop)->Prop
 | _,[],K=>K []
 | i,x::r,K=>if k i then kv k P (i+1) r fun l=>K (x.cs::l) else
  if x.arr then ∃ zs:List Int,kv k P (i+1) r fun l=>K (zs.map (AV.int .i64)::l)
  else Uy P x fun cs=>kv k P (i+1) r fun l=>K (cs::l)
def u3 (B:List Nat) (O:List (List AV)) (bx:List (Option Bx)):List (Option Bx) :=
 Wt bx fun b x=>match idx b B with
  | some i=>x.map fun y=>{ y with cs:=if y.arr then O.getD i [] else AV.zg (B[·]?) (O.getD i []) }
  | none=>x
def UH (B:List Nat) (x:Bx):List AV:=if x.arr then x.cs else AV.zb (AV.zg (idx · B) x.cs)
def Ut (P:Program) (S:Specs) (f:FuncId) (args:List AV) (d:Option Nat) (Z:St) (K:St->Prop):Prop :=
 let B:=kI Z.zU 30 (AV.zd args) []
 match B.mapM (fun b=>Z.bx.getD b none),P.funcs[f]? with
 | some bs,some fn =>
  if !decide B.Nodup then False else
  vS bs (bs.map (·.cs)) <|
  Xc P S.frs f fn.resultTypes.toList fun v=>kv (fun i=>S.frs.ro.contains (f+1000000*(i+1))) P 0 (bs.map fun x=>{ x with cs:=UH B x }) fun O' =>
   S.spec f (AV.zb (AV.zg (idx · B) args)) (bs.map (UH B)) v O'/\vS bs O' (K ({ Z with bx:=u3 B O' Z.bx }.put d (v.zj (B[·]?))))
 | _,_=>False
def O3 (P:Program) (f:FuncId):Option TypeId :=
 match P.funcs[f]? with
 | some fn=>match fn.resultTypes.toList with
  | [t]=>match P.underlying t with
   | some (.slice e)=>some e
   | _=>none
  | _=>none
 | none=>none
def Kh (ts:List TypeId) (b len:Nat) (K:Nat->AV->Prop):Prop :=
 match ts with
 | []=>K 0 (.tup [])
 | [_]=>∃ m:Nat,m<=len/\K (m+1) (.aslc b 0 m 1 false)
 | _=>False
def Hk (P:Program) (f:FuncId):List TypeId:=match P.funcs[f]? with
 | some fn=>fn.resultTypes.toList
 | none=>[0,0]
def N8 (P:Program) (S:Specs) (f:FuncId) (b len:Nat) (d:Option Nat) (Z:St) (K:St->Prop):Prop :=
 match Z.bx.getD b none with
 | some x=>if x.arr then Kh (Hk P f) b len fun k v=>∃ zs zs':List Int,(x.cs=zs.map (AV.int .i64)/\zs.length=len/\0<len/\zs'.length=len/\S.fresh f [.tup (zs.map (AV.int .i64))] k (zs'.map (AV.int .i64))) /\
   K ({ Z with bx:=Z.bx.set b (some { x with cs:=zs'.map (AV.int .i64) }) }.put d v) else False
 | none=>False
def We:List AV->Option (Nat × Nat)
 | [.aslc b 0 len 1 false]=>some (b,len)
 | _=>none
def Qf:AV->Bool
 | .tup _=>true
 | _=>false
def Qw:List AV->Bool
 | []=>true
 | x::_=>!Qf x
def AV.zw:AV->AV
 | .slc 0 []=>.slc 0 []
 | v=>v.norm
def Uw (P:Program) (S:Specs) (n:Nat) (f:FuncId) (b len:Nat) (d:Option Nat) (Z:St) (K:St->Prop):Prop :=
 match d,O3 P f,Z.bx.getD b none with
 | some d,some e,some x =>
  if x.arr then ∃ zs ws:List Int,(len<=x.cs.length/\yw x.cs=true/\x.cs.take len=zs.map (AV.int .i64)/\S.fresh f [.slc 3 (zs.map (AV.int .i64))] (P.cellsOf e) (ws.map (AV.int .i64))) /\
   qI n d ⟨e,true,ws.map (AV.int .i64)⟩ (.aslc (n+d) 0 ws.length (P.cellsOf e) (yk P e)) Z K
  else False
 | _,_,_=>False
def Y6 (P:Program) (S:Specs) (n:Nat) (f:FuncId) (args:List AV) (d:Option Nat) (Z:St) (K:St->Prop):Prop :=
 match We args with
 | some (b,len)=>if S.frs.ro.contains (f+992000000) then Uw P S n f b len d Z K else N8 P S f b len d Z K
 | none =>
 match d,O3 P f with
 | some d,some e =>
  if AV.zi args && Qw args then ∃ es:List AV,S.fresh f (args.map AV.zw) (P.cellsOf e) es /\
   qI n d ⟨e,true,es.flatMap AV.cells⟩ (.aslc (n+d) 0 es.length (P.cellsOf e) (yk P e)) Z K
  else False
 | _,_=>False

def XF (P:Program) (f:FuncId):Option Bool :=
 match P.funcs[f]? with
 | some fn=>if fn.body.isNone && fn.origin == "" then (if fn.name == "math/bits.Add64" then some true else if fn.name == "math/bits.Sub64" then some false else none) else none
 | none=>none
def Tu (add:Bool) (x y c:Int):AV :=
 if add then .tup [.int .u64 (((x.toNat+y.toNat+c.toNat) % 18446744073709551616:Nat):Int),.int .u64 (((x.toNat+y.toNat+c.toNat) / 18446744073709551616:Nat):Int)]
 else .tup [.int .u64 (((x.toNat+18446744073709551616-y.toNat-c.toNat) % 18446744073709551616:Nat):Int),.int .u64 ((if x.toNat<y.toNat+c.toNat then 1 else 0:Nat):Int)]
def uw (P:Program) (S:Specs) (n:Nat) (f:FuncId) (args:List AV) (d:Option Nat) (Z:St) (K:St->Prop):Prop :=
 match XF P f with
 | some b=>match args with
  | [x,y,c]=>match x.zr,y.zr,c.zr with
   | some (.u64,x,_),some (.u64,y,_),some (.u64,c,_)=>(0<=c/\c<=1)/\K (Z.put d (Tu b x y c))
   | _,_,_=>False
  | _=>False
 | none=>Y6 P S n f args d Z K
def qk (bx:List (Option Bx)) (b:Nat):Bool:=(bx.getD b none).isSome
def yA (Z:St):Bool:=(AV.zd Z.sl).all (qk Z.bx) && Z.bx.all fun
 | some x=>x.refs.all (qk Z.bx)
 | none=>true
def qC (n:Nat) (bx bx1:List (Option Bx)):Bool:=(List.range n).all (fun b=>qk bx b || !qk bx1 b) && bx1.all fun
 | some x=>x.refs.all (qk bx1)
 | none=>true
def Yk (P:Program) (S:Specs) (n:Nat) (f:FuncId) (args:List AV) (d:Option Nat) (Z:St) (K:St->Prop):Prop :=
 if (S.frs.zt f).isSome then S.inl f args Z (fun v τ=>if qC n Z.bx τ.bx && (AV.refs v).all (qk τ.bx) then K (τ.put d v) else False)
 else jC P S n f args d Z K
def Yl (P:Program) (S:Specs) (n:Nat) (f:FuncId) (args:List AV) (d:Option Nat) (Z:St) (K:St->Prop):Prop :=
 if S.frs.ro.contains (f+993000000) then Ut P S f args d Z K else Yk P S n f args d Z K
def yx (k:Nat) (es:List AV):Prop:=∀ v∈es,v.cells.length=k
def qp (Z:St) (k:Nat) (x:AV) (K:Nat->List AV->Prop):Prop :=
 match x with
 | .slc _ es=>yx k es/\K es.length (es.flatMap AV.cells)
 | .aslc b off len esz _=>match Z.zh b with
  | some cs=>(esz=k/\off+len*esz<=cs.length)/\K len ((cs.drop off).take (len*esz))
  | none=>False
 | _=>False
def T3 (P:Program) (t:TypeId) (name:String):Option FuncId :=
 match P.info? t,P.underlying t with
 | some i,some u=>match i.methods.find? (·.name == name) with
  | some m=>if m.path.isEmpty then match m.func,u with
    | some (f,true),.pointer _=>some f
    | some (_,false),.pointer _=>none
    | some (f,false),_=>some f
    | _,_=>none
   else none
  | none=>none
 | _,_=>none

def uh (P:Program) (t:TypeId) (Z:St) (a:AV) (K:AV->Prop):Prop :=
 match a with
 | .eptr cs off=>match kG P t cs off with | some v=>K v | none=>False
 | .ref b off=>match Z.bx.getD b none with
  | some x =>
   if x.mp.isSome then False else
   if x.arr then exT P t fun v=>(kG P t x.cs off).map AV.norm=some v/\K v
   else match kG P t x.cs off with | some v=>K v | none=>False
  | none=>False
 | _=>False
def va (P:Program) (t:TypeId) (Z:St) (a v:AV) (K:St->Prop):Prop :=
 match a with
 | .ref b off=>match Z.bx.getD b none with
  | some x =>
   if v.cells.length=P.cellsOf t/\yw v.cells/\(P.underlying t).isSome then
    if x.mp.isSome then False else
    if x.arr then if v.tree then off+v.cells.length<=x.cs.length/\K { Z with bx:=Z.bx.set b (some { x with cs:=setCells x.cs off v.norm.cells }) } else False
    else if decide (off+v.cells.length<=x.cs.length) && (qf (setCells x.cs off v.cells)).isNone then K { Z with bx:=Z.bx.set b (some { x with cs:=setCells x.cs off v.cells }) } else False
   else False
  | none=>False
 | _=>False
def bnd (o:Option AV) (d:Int):Option (IntKind × Int × Bool) :=
 match o with
 | some v=>v.zr
 | none=>some (.i64,d,true)
def kK (P:Program) (t:TypeId) (_σ:St) (x:AV) (lo hi mx:Option AV) (K:AV->Prop):Prop :=
 match P.underlying t with
 | some (.slice e) =>
  if (P.underlying e).isNone then False else
  match x with
  | .slc _ es =>
   match bnd lo 0,bnd hi es.length,mx with
   | some (_,l,_),some (_,h,_),none =>
    match lo with
    | none=>(0<=h/\h<=es.length)/\K (.slc 3 (es.take h.toNat))
    | some _=>(0<=l/\l<=h/\h<=es.length/\yx (P.cellsOf e) es)/\K (.slc 3 ((es.drop l.toNat).take (h.toNat-l.toNat)))
   | some (_,_l,_),some (_,h,_),some m=>match m.zr,lo,hi with
    | some (_,m,_),none,some _=>(0<=h/\h=m/\h<=es.length)/\K (.slc 2 (es.take h.toNat))
    | _,_,_=>False
   | _,_,_=>False
  | .aslc b off len esz ag =>
   match bnd lo 0,bnd hi len,mx with
   | some (_,l,_),some (_,h,_),none=>(0<=l/\l<=h/\h<=len/\l<len/\esz=P.cellsOf e)/\K (.aslc b (off+l.toNat*esz) (h.toNat-l.toNat) esz ag)
   | some (_,_l,_),some (_,h,_),some m=>match m.zr,lo,hi with
    | some (_,m,_),none,some _=>(h=0/\m=0)/\K (.slc 2 [])
    | _,_,_=>False
   | _,_,_=>False
  | _=>False
 | some .string =>
  match x with
  | .str s =>
   match bnd lo 0,bnd hi s.size,mx with
   | some (_,l,_),some (_,h,_),none=>(0<=l/\l<=h/\h<=s.size)/\K (.str (s.extract l.toNat h.toNat))
   | _,_,_=>False
  | _=>False
 | _=>False
def Vb (P:Program) (w:Ways) (kn:Bool) (e:TypeId) (es:List AV) (j:Int) (K:AV->Prop):Prop :=
 if kn then (match es[j.toNat]? with
  | some v=>K v
  | none=>False) else exE P w e K
def qO (P:Program) (w:Ways) (t:TypeId) (x i:AV) (K:AV->Prop):Prop :=
 match P.underlying t with
 | some (.array n e) =>
  if (P.underlying e).isNone then False else
  match x with
  | .ref b off=>TR n i fun j=>K (.ref b (off+j*P.cellsOf e))
  | .eptr cs off=>TR n i fun j=>K (.eptr cs (off+j*P.cellsOf e))
  | _=>False
 | some (.slice e) =>
  if (P.underlying e).isNone then False else
  match x,i.zr with
  | .slc m es,some (_,j,kn)=>Vb P w (m == 4 && kn) e es j fun v=>(0<=j/\v.cells.length=P.cellsOf e/\es[j.toNat]?=some v)/\K (.eptr v.cells 0)
  | .aslc b off len esz _,some (_,j,_)=>(0<=j/\j<len/\esz=P.cellsOf e)/\K (.ref b (off+j.toNat*esz))
  | _,_=>False
 | _=>False
def uE (P:Program) (t:TypeId) (x i:AV) (K:AV->Prop):Prop :=
 match P.underlying t with
 | some (.array n e) =>
  match x with
  | .agg cs=>TR n i fun j=>match kG P e cs (j*P.cellsOf e) with | some v=>K v | none=>False
  | _=>False
 | some .string =>
  match x,i.zr with
  | .str s,some (_,j,_)=>∃ c:UInt8,(0<=j/\s[j.toNat]?=some c)/\K (.int .u8 c.toNat)
  | _,_=>False
 | _=>False
def jV (P:Program) (n:Nat) (ts:List TypeId) (s x:AV) (d:Nat) (Z:St) (K:St->Prop):Prop :=
 match ts with
 | [t,t2] =>
  match P.underlying t,P.underlying t2 with
  | some (.slice e),some (.slice _) =>
   if P.cellsOf e=0\/(P.underlying e).isNone\/((wH P e).map fun z=>z.cells.length)≠some (P.cellsOf e) then False else
   qp Z (P.cellsOf e) x fun nx cx =>
    match s with
    | .slc 0 []=>((nx+512)*(5*P.bytesOf e+1)<=2 ^ 50/\yw cx=true) /\
      qI n d ⟨e,true,cx⟩ (.aslc (n+d) 0 nx (P.cellsOf e) (yk P e)) Z K
    | .slc 2 es=>((es=[]\/0<nx)/\(es.length+nx+512)*(5*P.bytesOf e+1)<=2 ^ 50/\yx (P.cellsOf e) es/\yw cx=true/\yw (es.flatMap AV.cells)=true) /\
      qI n d ⟨e,true,es.flatMap AV.cells++cx⟩ (.aslc (n+d) 0 (es.length+nx) (P.cellsOf e) (yk P e)) Z K
    | .aslc b 0 len esz ag=>match Z.bx.getD b none with
     | some bx =>
      if bx.arr && decide (esz=P.cellsOf e) && decide (b≠n+d) then
       (bx.cs.length=len*esz/\(len+nx+512)*(5*P.bytesOf e+1)<=2 ^ 50/\yw cx=true/\yw bx.cs=true) /\
       qI n d ⟨e,true,bx.cs++cx⟩ (.aslc (n+d) 0 (len+nx) esz ag) { Z with bx:=Z.bx.set b none } K
      else False
     | none=>False
    | _=>False
  | _,_=>False
 | _=>False
def appendIn (P:Program) (ts:List TypeId) (s x:AV) (d:Nat) (Z:St) (K:St->Prop):Prop :=
 match ts with
 | [t,t2] =>
  match P.underlying t,P.underlying t2 with
  | some (.slice e),some (.slice _) =>
   if P.cellsOf e=0\/(P.underlying e).isNone then False else
   qp Z (P.cellsOf e) x fun nx cx =>
    match s with
    | .aslc b off len esz ag=>match Z.bx.getD b none with
     | some bx =>
      if bx.arr && decide (esz=P.cellsOf e) then
       (0<nx/\off+(len+nx)*esz<=bx.cs.length/\yw cx=true) /\
       K ({ Z with bx:=Z.bx.set b (some { bx with cs:=setCells bx.cs (off+len*esz) cx }) }.put (some d) (.aslc b off (len+nx) esz ag))
      else False
     | none=>False
    | _=>False
  | _,_=>False
 | _=>False
def Wr (op:BinOp) (x y:AV) (K:AV->Prop):Prop :=
 match x.zr,y.zr with
 | some (k,a,l),some (k',b,l') =>
  match op with
  | .quo=>if k=k' then (if l' then (if b=0 then False else K (mkI k (k.wrap (a.tdiv b)) (l && l'))) else b≠0/\K (mkI k (k.wrap (a.tdiv b)) false)) else False
  | .rem=>if k=k' then (if l' then (if b=0 then False else K (mkI k (a.tmod b) (l && l'))) else b≠0/\K (mkI k (a.tmod b) false)) else False
  | .shl=>if l' then (if b<0 then False else K (mkI k (k.wrap (a*2 ^ (min b.toNat k.bits))) (l && l'))) else 0<=b/\K (mkI k (k.wrap (a*2 ^ (min b.toNat k.bits))) false)
  | .shr=>if l' then (if b<0 then False else K (mkI k (a.fdiv (2 ^ (min b.toNat k.bits))) (l && l'))) else 0<=b/\K (mkI k (a.fdiv (2 ^ (min b.toNat k.bits))) false)
  | _=>False
 | _,_=>False

section
variable (P:Program) (S:Specs) (n:Nat)

def XY (P:Program) (op:BinOp) (t:TypeId) (x y:AV):Option (Bool × List AV) :=
 match P.underlying t,NU op with
 | some (.slice _),some e=>match x,y with
  | .slc (m+1) es,.slc 0 []=>if m == 3 then none else some (e,es)
  | .slc 0 [],.slc (m+1) es=>if m == 3 then none else some (e,es)
  | _,_=>none
 | _,_=>none
def Wv (w:Ways) (d:Option Nat):Option Nat:=match d with
 | some d=>if w.ow.contains d then some d else none
 | none=>none
def Ky (o:Option Nat) (l c:Int):Nat:=match o with
 | some _=>c.toNat
 | none=>l.toNat
mutual
def jZ:AV->Option Value
 | .int k n=>some (.int k n)
 | .bool b=>some (.bool b)
 | .str s=>some (.string s)
 | .agg cs=>(cvL cs).map fun l=>.agg l.toArray
 | _=>none
def cvL:List AV->Option (List Value)
 | []=>some []
 | x::r=>match jZ x,cvL r with
  | some v,some l=>some (v::l)
  | _,_=>none
end
def QZ (P:Program) (kt:TypeId) (c:Value):Prop :=
 match P.underlying kt with
 | some (.struct _) | some (.array _ _)=>P.keyTypeAt 2 kt=true/\P.tiled 2 kt=true/\∃ l,keyOf P kt c=some l
 | some d=>MapKept.IsKey d c
 | none=>False
def xC (P:Program) (kt:TypeId) (k:AV):Prop:=∃ c,jZ k=some c/\QZ P kt c
def kU (P:Program) (kt:TypeId) (M:List AV):Prop:=∀ x∈M,∃ k v,x=.agg [k,v]/\xC P kt k
def uq (z:AV) (M:List AV) (k:AV) (f:Bool) (v:AV):Prop :=
 if f then ∃ i:Nat,M[i]?=some (.agg [k,v])/\∀ (j:Nat) (v':AV),M[j]?=some (.agg [k,v'])->j=i else (∀ v',.agg [k,v']∉M)/\v=z
def AV.zH (v:AV):AV:=if v.tree then v else .undef
def xP (M:List AV) (k v:AV) (M':List AV):Prop :=
 (∃ (i:Nat) (v0:AV),M[i]?=some (.agg [k,v0])/\(∀ (j:Nat) (v':AV),M[j]?=some (.agg [k,v'])->j=i)/\M'=M.set i (.agg [k,v]))\/((∀ v',.agg [k,v']∉M)/\M'=M++[.agg [k,v]])
def UZ (n d:Nat) (t:TypeId) (Z:St) (K:St->Prop):Prop :=
 if v8 (n+d) { sl:=Z.sl.set d .undef,bx:=Z.bx.set (n+d) none } && decide (d<Z.sl.length) && decide (n+d<Z.bx.length) then K { sl:=Z.sl.set d (.map (n+d)),bx:=Z.bx.set (n+d) (some ⟨t,false,[.iface 1000000 (.slc 3 [])]⟩) } else False
def wi (P:Program) (t:TypeId) (Z:St) (m k:AV) (ok:Bool) (K:AV->Prop):Prop :=
 match P.underlying t,m with
 | some (.map kt et),.map b=>match Z.bx.getD b none,wH P et with
  | some x,some z=>match x.mp with
   | some es=>kU P kt es/\xC P kt k.norm/\exT P et fun v=>∃ f:Bool,uq z.norm es k.norm f v/\K (if ok then .tup [v,.bool f] else v)
   | none=>False
  | _,_=>False
 | _,_=>False
def Mh (P:Program) (t:TypeId) (Z:St) (m k v:AV) (K:St->Prop):Prop :=
 match P.underlying t,m with
 | some (.map kt _),.map b=>match Z.bx.getD b none with
  | some x=>match x.mp with
   | some es=>kU P kt es/\xC P kt k.norm/\∃ es':List AV,xP es k.norm v.zH.norm es'/\K { Z with bx:=Z.bx.set b (some { x with cs:=[.iface 1000000 (.slc 3 es')] }) }
   | none=>False
  | none=>False
 | _,_=>False
def wK (s:ByteArray):List AV:=s.data.toList.map fun b=>.int .u8 b.toNat
def bytesOf (P:Program) (s d:TypeId) (v:AV):Option AV :=
 match P.underlying s,P.underlying d,v with
 | some .string,some (.slice e),.str b=>match P.underlying e with
  | some (.int .u8)=>some (.slc 3 (wK b))
  | _=>none
 | _,_,_=>none
def aop (o:Oper) (Z:St) (K:St->Prop):Prop :=
 match o.op with
 | .alloc t=>match o.dst,wH P t with
  | some d,some z=>qI n d ⟨t,false,z.cells⟩ (.ref (n+d) 0) Z K
  | _,_=>False
 | .box t x=>match o.dst with
  | some d=>if (ev Z x).zl then qI n d ⟨t,false,(ev Z x).cells⟩ (.ref (n+d) 0) Z K else False
  | none=>False
 | .buildSlice t len ps =>
  match P.underlying t with
  | some (.slice e) =>
   match wH P e with
   | some z =>
    if len*P.cellsOf e<=2 ^ 20/\0<P.cellsOf e/\z.cells.length=P.cellsOf e/\(yk P e=false->P.cellsOf e=1)/\(P.underlying e).isSome then
     match uB (fun i=>some (i*P.cellsOf e,P.cellsOf e)) ((List.replicate len z.cells).flatten) (ps.toList.map fun p=>(p.1,ev Z p.2)) with
     | some out=>if AV.zi out && yw out then (match Wv S.frs o.dst with
      | some d=>qI n d ⟨e,true,AV.zb out⟩ (.aslc (n+d) 0 len (P.cellsOf e) (yk P e)) Z K
      | none=>K (Z.put o.dst (.slc 2 (chunks (P.cellsOf e) (yk P e) len (AV.zb out))))) else False
     | none=>False
    else False
   | none=>False
  | _=>False
 | .makeMap t none=>match o.dst,P.underlying t with
  | some d,some (.map _ _)=>UZ n d t Z K
  | _,_=>False
 | .lookup t x k ok=>wi P t Z (ev Z x) (ev Z k) ok fun v=>K (Z.put o.dst v)
 | .mapUpdate t x k v=>Mh P t Z (ev Z x) (ev Z k) (ev Z v) fun Z=>K (Z.put o.dst (.tup []))
 | .load t x=>uh P t Z (ev Z x) fun v=>K (Z.put o.dst v)
 | .store t a x=>va P t Z (ev Z a) (ev Z x) fun Z=>K (Z.put o.dst (.tup []))
 | .indexAddr t x i=>qO P S.frs t (ev Z x) (ev Z i) fun v=>K (Z.put o.dst v)
 | .index t x i=>uE P t (ev Z x) (ev Z i) fun v=>K (Z.put o.dst v)
 | .slice t x lo hi mx=>kK P t Z (ev Z x) (lo.map (ev Z)) (hi.map (ev Z)) (mx.map (ev Z)) fun v=>K (Z.put o.dst v)
 | .convert s d x=>match bytesOf P s d (ev Z x) with
  | some v=>K (Z.put o.dst v)
  | none=>match jr P (ev Z) (.convert s d x) with
   | some v=>K (Z.put o.dst v)
   | none=>False
 | .makeSlice t l c =>
  match P.underlying t,(ev Z l).zr,(ev Z c).zr,o.dst with
  | some (.slice e),some (_,l,_),some (_,c,_),some d=>match wH P e with
   | some z=>if 0<P.cellsOf e/\z.cells.length=P.cellsOf e/\z.tree=true then (0<=l/\l<=c/\(c+1)*(P.bytesOf e+1)<=2 ^ 48) /\
     qI n d ⟨e,true,(List.replicate (Ky (Wv S.frs (some d)) l c) z.norm.cells).flatten⟩ (.aslc (n+d) 0 l.toNat (P.cellsOf e) (yk P e)) Z K else False
   | none=>False
  | _,_,_,_=>False
 | .binOp .quo _ x y _=>Wr .quo (ev Z x) (ev Z y) fun v=>K (Z.put o.dst v)
 | .binOp .rem _ x y _=>Wr .rem (ev Z x) (ev Z y) fun v=>K (Z.put o.dst v)
 | .binOp .shl _ x y _=>Wr .shl (ev Z x) (ev Z y) fun v=>K (Z.put o.dst v)
 | .binOp .shr _ x y _=>Wr .shr (ev Z x) (ev Z y) fun v=>K (Z.put o.dst v)
 | .binOp op t x y yt=>match XY P op t (ev Z x) (ev Z y) with
  | some (e,es)=>∀ b:Bool,(es≠[]->b=!e)->K (Z.put o.dst (.bool b))
  | none=>match jr P (ev Z) (.binOp op t x y yt) with
   | some v=>K (Z.put o.dst v)
   | none=>False
 | .call c =>
  match c.callee with
  | .value (.func f)=>if S.frs.fr.contains f then uw P S n f (c.args.toList.map (ev Z)) o.dst Z K else Yk P S n f (c.args.toList.map (ev Z)) o.dst Z K
  | .value f=>match ev Z f with
   | .fn g first caps=>Yl P S n g (first++(c.args.toList.map (ev Z)++caps)) o.dst Z K
   | _=>False
  | .invoke r name=>match ev Z r with
   | .iface t v=>match T3 P t name with
    | some g=>Yk P S n g (v::c.args.toList.map (ev Z)) o.dst Z K
    | none=>False
   | _=>False
  | .builtin .append=>match c.args.toList.map (ev Z),o.dst with
   | [s,x],some d=>if (Wv S.frs (some d)).isSome then appendIn P c.argTypes.toList s x d Z K else jV P n c.argTypes.toList s x d Z K
   | _,_=>False
  | .builtin _=>match jr P (ev Z) (.call c) with
   | some v=>K (Z.put o.dst v)
   | none=>False
 | op=>match jr P (ev Z) op with
  | some v=>K (Z.put o.dst v)
  | none=>False

def qc (ops:List Oper):List (Option Nat):=ops.map (·.dst)
def xe (dsts:List (Option Nat)):List Oper->St->(St->Prop)->Prop
 | [],Z,K=>K Z
 | o::r,Z,K =>
  match o.guard with
  | none=>aop P S n o Z fun Z=>xe dsts r Z K
  | some (j,want) =>
   match dsts[j]? with
   | some (some d) =>
    match Z.sl.getD d .undef with
    | .tt=>if want then aop P S n o Z fun Z=>xe dsts r Z K else xe dsts r (Z.put o.dst (.tup [])) K
    | .ff=>if want then xe dsts r (Z.put o.dst (.tup [])) K else aop P S n o Z fun Z=>xe dsts r Z K
    | .bool b =>
     if want then br b (aop P S n o (Z.put (some d) .tt) fun Z=>xe dsts r Z K) (xe dsts r ((Z.put (some d) .ff).put o.dst (.tup [])) K)
     else br b (xe dsts r ((Z.put (some d) .tt).put o.dst (.tup [])) K) (aop P S n o (Z.put (some d) .ff) fun Z=>xe dsts r Z K)
    | .tup []=>xe dsts r (Z.put o.dst (.tup [])) K
    | _=>False
   | _=>False

def Yi:AV->List Nat
 | .ref b _=>[b]
 | _=>[]
def I8:AV->List Nat
 | .map b=>[b]
 | _=>[]
def Y2 (Z:St) (c:Call):Option (List AV) :=
 match c.callee with
 | .value (.func _)=>some (c.args.toList.map (ev Z))
 | .value f=>match ev Z f with
  | .fn _ first caps=>some (first++(c.args.toList.map (ev Z)++caps))
  | _=>none
 | .invoke r _=>match ev Z r with
  | .iface _ v=>some (v::c.args.toList.map (ev Z))
  | _=>none
 | .builtin _=>none
def KO (Z:St) (c:Call):List Nat :=
 match Y2 Z c with
 | some l=>(AV.za l).map (·.1)
 | none=>[]
mutual
def roV (B:List Nat):AV->Bool
 | .lit .. | .tt | .ff | .aslc ..=>false
 | .slc m _=>m == 3
 | .ref b _ | .map b=>B.contains b
 | .fn _ a b=>roL B a && roL B b
 | .iface _ v=>roV B v
 | .agg cs | .tup cs=>roL B cs
 | .eptr cs _=>(AV.za cs).isEmpty && (AV.zd cs).all fun b=>B.contains b
 | _=>true
def roL (B:List Nat):List AV->Bool
 | []=>true
 | x::r=>roV B x && roL B r
end
def yC (Z:St) (l:List AV):List Nat:=kI (fun b=>(Z.box b).map (AV.ze Z.zh)) 30 (AV.zd (AV.ze Z.zh l)) []
def X3 (Z:St) (l:List AV) (B:List Nat):Bool:=(AV.za l).isEmpty && (AV.zd l).all (fun b=>B.contains b) && decide B.Nodup && B.all fun b=>match Z.bx.getD b none with
 | some x=>!x.arr && roL B x.cs
 | none=>false
def WD (Z:St) (c:Call):Option FuncId :=
 match c.callee with
 | .value (.func f)=>some f
 | .value f=>match ev Z f with
  | .fn g _ _=>some g
  | _=>none
 | _=>none
def NX (w:Ways) (Z:St) (c:Call):Bool :=
 match WD Z c with
 | some f=>w.ro.contains f
 | none=>false
def JD (w:Ways) (Z:St) (c:Call):Bool :=
 match WD Z c with
 | some f=>w.ro.contains (f+999000000)
 | none=>false
def V2 (Z:St) (l:List AV) (B:List Nat):Bool:=(AV.za l).isEmpty && (AV.zd l).all (fun b=>B.contains b) && decide B.Nodup && B.all fun b=>match Z.bx.getD b none with
 | some x=>!x.arr && (AV.za x.cs).isEmpty && (AV.zd x.cs).all (fun b=>B.contains b)
 | none=>false
def wrB (w:Ways) (Z:St) (c:Call):List Nat:=if JD w Z c then (match Y2 Z c with
 | some l=>yC Z l
 | none=>[]) else []
def NV (frs:Ways) (c:Call):Bool :=
 match c.callee with
 | .value (.func f)=>frs.fr.contains f
 | _=>false
def NW (w:Ways) (Z:St) (c:Call):Bool :=
 match c.callee with
 | .value (.func f)=>(w.zt f).isSome
 | .value f=>match ev Z f with
  | .fn g _ _=>(w.zt g).isSome || w.ro.contains (g+993000000)
  | _=>false
 | .invoke _ _=>!w.il.isEmpty
 | _=>false
def wN:AV->List Nat
 | .aslc b ..=>[b]
 | _=>[]
def Jb (c:Call):FuncId:=match c.callee with
 | .value (.func f)=>f
 | _=>0
def frR (P:Program) (c:Call) (args:List AV) (d:Option Nat):Option (List Nat × List Nat) :=
 if (We args).isSome then none else
 match XF P (Jb c) with
 | some _=>some ([],[])
 | none=>match d with
  | some d=>some ([],[d])
  | none=>none
def frW (n:Nat) (frs:Ways) (c:Call) (d:Option Nat):List Nat:=if NV frs c then (match d with
 | some d=>[n+d]
 | none=>[]) else []
def K4 (args:List AV) (d:Option Nat):Option (List Nat × List Nat) :=
 match args,d with
 | [s,x],some d=>some (wN s++wN x,[d])
 | _,_=>none
def Ge (n:Nat) (args:List AV) (d:Option Nat):List Nat :=
 match args,d with
 | [s,_],some d=>wN s++[n+d]
 | _,_=>[]
def fpR (frs:Ways) (o:Oper) (Z:St):Option (List Nat × List Nat) :=
 match o.op with
 | .alloc _=>match o.dst with
  | some d=>some ([],[d])
  | none=>none
 | .load _ x=>some (Yi (ev Z x),[])
 | .store _ a _=>some (Yi (ev Z a),[])
 | .lookup _ x _ _=>some (I8 (ev Z x),[])
 | .slice _ x _ _ _=>if frs.ro.contains 994000000 then (match ev Z x with
  | .slc ..=>some ([],[])
  | _=>none) else none
 | .box .. | .makeSlice .. | .makeMap .. | .mapUpdate ..=>none
 | .buildSlice ..=>if (Wv frs o.dst).isSome then none else some ([],[])
 | .binOp op t x y _=>if (XY P op t (ev Z x) (ev Z y)).isSome then none else some ([],[])
 | .call c=>if NV frs c then frR P c (c.args.toList.map (ev Z)) o.dst else if NW frs Z c then none else match c.callee with
  | .builtin .append=>if (Wv frs o.dst).isSome then none else K4 (c.args.toList.map (ev Z)) o.dst
  | .builtin _=>some ([],[])
  | _=>match Y2 Z c with
   | some l=>if (AV.zd (AV.ze Z.zh l)).isEmpty then some ((AV.za l).map (·.1),[]) else if NX frs Z c && X3 Z l (yC Z l) then some (yC Z l,[]) else if JD frs Z c && V2 Z l (yC Z l) then some (yC Z l,[]) else none
   | none=>some ([],[])
 | _=>some ([],[])
def fpW (frs:Ways) (o:Oper) (Z Z':St):List Nat :=
 match o.op with
 | .alloc _=>match o.dst with
  | some d=>[n+d]
  | none=>[]
 | .store _ a _=>Yi (ev Z a)
 | .call c=>match c.callee with
  | .builtin .append=>Ge n (c.args.toList.map (ev Z)) o.dst
  | _=>((KO Z c).filter fun b=>(Z'.bx.getD b none).isNone)++(wrB frs Z c++frW n frs c o.dst)
 | _=>[]
def fpF (d:Option Nat) (W:List Nat) (Z':St):List Nat :=
 (match d with
  | some d=>(Z'.sl.getD d .undef).refs
  | none=>[])++W.flatMap fun b=>match Z'.bx.getD b none with
  | some x=>x.refs
  | none=>[]
structure Fp where
 i:Nat
 o:Oper
 R:List Nat
 W:List Nat
 F:List Nat
 rf:List Nat
def XB (a b:List Nat):Bool:=a.all fun x=>!b.contains x
def Sj (ops:Array Oper) (a:Nat):Nat->Nat->Bool
 | 0,_=>false
 | k+1,b=>match ops[b]? with
  | some o=>o.after.toList.any fun e=>Region.binds .any e && (e.on == a || Sj ops a k e.on)
  | none=>false
def Fp.fits (ops:Array Oper) (a b:Fp):Bool :=
 a.o.after.toList.all (fun e=>!(Region.binds .any e && e.on == b.i)) && XB (b.F.map (n+·)) a.rf && (b.o.after.toList.any (fun e=>Region.binds .any e && (e.on == a.i || Sj ops a.i 2 e.on)) ||
  (a.o.apart ops b.o && XB a.W b.R && XB b.W a.R && XB a.W b.W && XB (a.F.map (n+·)) b.rf))
def vV (d:Nat) (Z:St):Bool:=v8 (n+d) { sl:=Z.sl.set d .undef,bx:=Z.bx.set (n+d) none }
def split (g:Bool) (d:Option Nat) (Z:St) (K:St->Prop):Prop :=
 match g,d with
 | true,some d=>match Z.sl.getD d .undef with
  | .bool b=>br b (K (Z.put (some d) .tt)) (K (Z.put (some d) .ff))
  | _=>K Z
 | _,_=>K Z
def gop (dsts:List (Option Nat)) (g:Bool) (o:Oper) (Z:St) (K:St->Prop):Prop :=
 match o.guard with
 | none=>aop P S n o Z fun Z=>split g o.dst Z K
 | some (j,want) =>
  match dsts[j]? with
  | some (some d) =>
   match Z.sl.getD d .undef with
   | .tt=>if want then aop P S n o Z fun Z=>split g o.dst Z K else K (Z.put o.dst (.tup []))
   | .ff=>if want then K (Z.put o.dst (.tup [])) else aop P S n o Z fun Z=>split g o.dst Z K
   | .tup []=>K (Z.put o.dst (.tup []))
   | _=>False
  | _=>False
def TT (ops:Array Oper) (i:Nat):Bool:=ops.toList.any fun o=>match o.guard with
 | some (j,_)=>j == i
 | none=>false
def ky:List Nat->(List Nat->Prop)->Prop
 | [],k=>k []
 | 0::r,k=>ky r fun r=>k (0::r)
 | (x+1)::r,k=>ky r fun r=>k ((x+1)::r)
def T6 (w:Ways) (o:Oper):Bool:=match o.op with
 | .slice ..=>!w.ro.contains 994000000
 | .box .. | .makeSlice .. | .makeMap .. | .mapUpdate ..=>true
 | .store ..=>w.ro.contains 989000000
 | .buildSlice ..=>(Wv w o.dst).isSome
 | .call c=>match c.callee with
  | .value (.func f)=>(w.zt f).isSome || w.ro.contains (f+991000000)
  | .value _=>w.ro.contains 997000000
  | _=>false
 | _=>false
def G7 (w:Ways) (ops:Array Oper):Nat->List Nat->List Nat->List Nat
 | 0,_,done=>done.reverse
 | k+1,rem,done=>match (rem.find? (fun i=>match ops[i]? with
   | some o=>!T6 w o && o.after.toList.all fun e=>!Region.binds .any e || done.contains e.on
   | none=>false)).or (rem.find? (fun i=>match ops[i]? with
   | some o=>o.after.toList.all fun e=>!Region.binds .any e || done.contains e.on
   | none=>false)) with
  | some i=>G7 w ops k (rem.filter fun j=>!(j == i)) (i::done)
  | none=>done.reverse
def V7 (ops:Array Oper):List Nat->List Fp->St->(St->Prop)->Prop
 | [],_,Z,K=>K Z
 | i::r,past,Z,K =>
  match ops[i]? with
  | none=>False
  | some o=>match fpR P S.frs o Z with
   | none=>False
   | some (R,F) =>
    if o.after.toList.all (fun e=>decide (e.on<ops.size) && !(e.on == i)) then
     gop P S n (qc ops.toList) (TT ops i) o Z fun Z' =>
      ky R fun R=>ky (fpW n S.frs o Z Z') fun W=>ky F fun F=>ky (fpF o.dst W Z') fun rf =>
       if past.all (fun q=>q.fits n ops ⟨i,o,R,W,F,rf⟩) then V7 ops r (⟨i,o,R,W,F,rf⟩::past) Z' K else False
    else False
def XH (ops:Array Oper):List Nat->List Nat->Bool
 | [],_=>true
 | x::r,seen=>(seen.any fun y=>match ops[y]? with
   | some o=>o.after.toList.any fun e=>Region.binds .any e && e.on == x
   | none=>false) && XH ops r (x::seen)
def Wn (ops:Array Oper):List Nat->List Nat->Bool
 | [],_=>true
 | l::r,seen=>(match ops[l]? with
  | some o=>o.after.toList.all fun e=>decide (e.on<ops.size) && seen.contains e.on
  | none=>false) && XH ops seen [l] && Wn ops r (l::seen)
def wQ (w:Ways) (ops:Array Oper):List Nat->List Nat × List Nat
 | []=>([],[])
 | i::r=>if (match ops[i]? with
   | some o=>T6 w o
   | none=>false) then ([],i::r) else (i::(wQ w ops r).1,(wQ w ops r).2)
def WG (ops:Array Oper) (pre fin:List Nat):Bool:=Wn ops fin pre.reverse && pre.all fun x=>match ops[x]? with
 | some o=>o.after.toList.all fun e=>!(Region.binds .any e && fin.contains e.on)
 | none=>false
def j0 (esz:Nat) (ag:Bool) (es:List AV):Prop:=∀ v∈es,if ag then ∃ c,v=.agg c/\c.length=esz else v.cells=[v]
def VL (nm:Bool) (esz:Nat) (ag:Bool) (len:Nat) (cs:List AV) (K:List AV->Prop):Prop :=
 if nm then ∃ es:List AV,(es.length=len/\es.flatMap AV.cells=cs/\j0 esz ag es)/\K es else K (chunks esz ag len cs)
def wg (nm:Bool) (n t:Nat) (Z:St) (K:St->Prop):Prop :=
 match Z.sl.getD t .undef with
 | .aslc b off len esz ag=>match Z.zh b with
  | some cs=>if n<=b then q6 Z.zh [(b,off+len*esz,esz,ag)] (VL nm esz ag len (cs.drop off) fun es=>K ⟨Z.sl.set t (.slc 3 es),Z.bx.set b none⟩) else False
  | none=>False
 | .ref b off=>match Z.bx.getD b none with
  | some x=>if !x.arr && (qf x.cs).isNone && (AV.za x.cs).isEmpty && decide (n<=b) then K ⟨Z.sl.set t (.eptr x.cs off),Z.bx.set b none⟩ else False
  | none=>False
 | _=>K Z
def Yd (ops:List Oper) (o:Oper) (Z:St) (K:St->Prop):Prop:=match o.op with
 | .store _ x (.tmp t)=>match ev Z x with
  | .ref b _=>match Z.bx.getD b none with
   | some y=>if y.arr && (qc ops).contains (some t) then wg false n t Z K else K Z
   | none=>K Z
  | _=>K Z
 | _=>K Z
def Od (ops:Array Oper):List Nat->(St->Prop)->St->Prop
 | [],K,Z=>K Z
 | l::r,K,Z=>match ops[l]? with
  | some o=>Yd n ops.toList o Z fun Z=>gop P S n (qc ops.toList) (TT ops l) o Z (Od ops r K)
  | none=>False
def Ux (ops:Array Oper) (ord:List Nat) (Z:St) (K:St->Prop):Prop :=
 if (wQ S.frs ops ord).2.isEmpty then V7 P S n ops ord [] Z K else
 ky (wQ S.frs ops ord).1 fun pre=>ky (wQ S.frs ops ord).2 fun fin =>
  if WG ops pre fin then V7 P S n ops pre [] Z (Od P S n ops fin K) else False
structure uo where
 sl:List Nat
 es:List (Bool × AV)
def uW (P:Program) (t:TypeId):Bool:=match P.underlying t with
 | some (.map k _)=>match P.underlying k with
  | some .bool=>true
  | _=>false
 | _=>false
def L7 (P:Program) (ops:List Oper):Bool:=ops.any fun o=>match o.op with
 | .makeMap t _=>uW P t
 | _=>false
def UY (M:uo):Option Nat->Bool
 | some d=>!M.sl.contains d
 | none=>true
def Wk (o:Oper) (M:uo) (Z:St) (K:uo->St->Prop):Prop :=
 if UY M o.dst then match jr P (ev Z) o.op with
  | some v=>K M (Z.put o.dst v)
  | none=>False
 else False
def VK (M:uo) (d:Option Nat) (b:Bool) (Z:St) (K:uo->St->Prop):Prop :=
 match M.es.lookup b with
 | some v=>K M (Z.put d v)
 | none=>False
def N5 (o:Oper) (M:uo) (Z:St) (K:uo->St->Prop):Prop :=
 match o.op with
 | .load t x=>if UY M o.dst then uh P t Z (ev Z x) fun v=>K M (Z.put o.dst v) else False
 | .insert t x k v=>match x,(ev Z k).zR with
  | .tmp m,some b=>if M.sl.contains m && uW P t && (M.es.lookup b).isNone && UY M o.dst then K ⟨M.sl,M.es++[(b,ev Z v)]⟩ (Z.put o.dst (.tup [])) else False
  | _,_=>False
 | .lookup t x k ok=>match x,(ev Z k).zR with
  | .tmp m,some b=>if !ok && M.sl.contains m && uW P t && UY M o.dst then br b (VK M o.dst true Z K) (VK M o.dst false Z K) else False
  | _,_=>False
 | .move x=>match x,o.dst with
  | .tmp m,some d=>if M.sl.contains m then (if decide (d<Z.sl.length) then K ⟨d::M.sl,M.es⟩ (Z.put (some d) .undef) else False) else Wk P o M Z K
  | _,_=>Wk P o M Z K
 | _=>Wk P o M Z K
def uu:List Oper->Option uo->St->(St->Prop)->Prop
 | [],_,Z,K=>K Z
 | o::r,M,Z,K =>
  if o.guard.isSome then False else
  match M with
  | none=>match o.op,o.dst with
   | .makeMap t none,some d=>if uW P t && decide (d<Z.sl.length) then uu r (some ⟨[d],[]⟩) (Z.put (some d) .undef) K else False
   | .makeMap _ _,_=>False
   | _,_=>aop P S n o Z fun Z=>uu r none Z K
  | some M=>N5 P o M Z fun M Z=>uu r (some M) Z K
def ur (w:Ways) (ops:Array Oper):List Nat:=ops.toList.filterMap fun o=>match o.op with
 | .alloc _=>o.dst
 | .call c=>match c.callee with
  | .builtin .append=>o.dst
  | _=>if NV w c then o.dst else none
 | _=>none
def U6 (ops:Array Oper) (ord:List Nat):Bool:=(List.range ops.size).all (fun i=>ord.contains i) && decide ord.Nodup && ord.length == ops.size && ord.all (fun i=>decide (i<ops.size))

def clean (keep:List Nat) (Z:St):St:={ Z with sl:=Wt Z.sl fun i v=>if keep.contains i then v else .undef }

mutual
def xW:AV->(AV->Prop)->Prop
 | .undef,k=>k .undef
 | .tt,k=>k .tt
 | .ff,k=>k .ff
 | .bool b,k=>k (.bool b)
 | .lit t n,k=>k (.lit t n)
 | .int t n,k=>k (.int t n)
 | .str s,k=>k (.str s)
 | .nilp,k=>k .nilp
 | .eptr cs off,k=>we cs fun cs=>k (.eptr cs off)
 | .ref b off,k=>k (.ref b off)
 | .slc m es,k=>k (.slc m es)
 | .aslc b off len esz ag,k=>k (.aslc b off len esz ag)
 | .fn f a c,k=>we a fun a=>we c fun c=>k (.fn f a c)
 | .nilfn,k=>k .nilfn
 | .iface t v,k=>xW v fun v=>k (.iface t v)
 | .nilif,k=>k .nilif
 | .agg cs,k=>we cs fun cs=>k (.agg cs)
 | .tup vs,k=>we vs fun vs=>k (.tup vs)
 | .map b,k=>k (.map b)
 | .nilmap,k=>k .nilmap
 | .yld l,k=>k (.yld l)
def we:List AV->(List AV->Prop)->Prop
 | [],k=>k []
 | x::r,k=>xW x fun x=>we r fun r=>k (x::r)
end
def Xe (keep:List Nat):Nat->List AV->(List AV->Prop)->Prop
 | _,[],k=>k []
 | i,x::r,k=>if keep.contains i then xW x fun x=>Xe keep (i+1) r fun r=>k (x::r) else Xe keep (i+1) r fun r=>k (.undef::r)
def vT:List (Option Bx)->(List (Option Bx)->Prop)->Prop
 | [],k=>k []
 | none::r,k=>vT r fun r=>k (none::r)
 | some ⟨t,true,cs⟩::r,k=>vT r fun r=>k (some ⟨t,true,cs⟩::r)
 | some ⟨t,false,cs⟩::r,k=>we cs fun cs=>vT r fun r=>k (some ⟨t,false,cs⟩::r)
def Yy (keep:List Nat) (Z:St) (K:St->Prop):Prop:=Xe keep 0 Z.sl fun sl=>vT Z.bx fun bx=>K ⟨sl,bx⟩
inductive Ex where
 | normal
 | exit (id:Nat)
 | ret
def Ta (fr:Nat->Prop) (v v':AV):Prop:=v'=.undef\/v'=v\/v'=v.norm\/((v=.slc 0 []\/v=.slc 2 [])/\∃ b esz ag,v'=.aslc b 0 0 esz ag/\fr b)
abbrev Mb (h:Nat->Option Nat) (n b:Nat):Prop:=n<=b/\∀ c,h c≠some b
def P6 (v v':AV):Prop:=v'=.undef\/v'=v\/v'=v.norm
structure xQ (n:Nat) (Z Z':St):Prop where
 ex:∃ h:Nat->Option Nat,(∀ b i,h b=some i->i<n->b=i)/\True/\(∀ b c i,h b=some i->h c=some i->b=c) /\
  (∀ t,Ta (Mb h n) ((Z.sl.getD t .undef).zj h) (Z'.sl.getD t .undef)) /\
  (∀ b' x',Z'.bx.getD b' none=some x'->(∃ b x,h b=some b'/\Z.bx.getD b none=some x/\x'.arr=x.arr/\x'.cs.length=x.cs.length/\qf x'.cs=qf x.cs /\
   ∀ j,if x.arr then P6 (x.cs.getD j .undef) (x'.cs.getD j .undef) else Ta (Mb h n) ((x.cs.getD j .undef).zj h) (x'.cs.getD j .undef))\/(x'.cs=[]/\n<=b'/\∀ b,h b≠some b'))
 len:Z'.sl.length=Z.sl.length

def UO (n:Nat) (f:St->(Ex->St->Prop)->Prop):Nat->St->(Ex->St->Prop)->Prop
 | 0,_,_=>False
 | m+1,Z,K=>f Z fun e Z=>match e with
  | .normal=>∃ Z',xQ n Z Z'/\UO n f m Z' K
  | e=>K e Z
def Qg (f:St->(Ex->St->Prop)->Prop):Nat->St->(Ex->St->Prop)->Prop
 | 0,_,_=>False
 | m+1,Z,K=>f Z fun e Z=>match e with
  | .normal=>Qg f m Z K
  | e=>K e Z
def jJ:Code->Option Nat
 | .region id _ _=>some id
 | .seq a b=>match jJ a with
  | some i=>some i
  | none=>jJ b
 | .cond _ a b=>match jJ a with
  | some i=>some i
  | none=>jJ b
 | .block _ b | .loop b | .scope b=>jJ b
 | _=>none
def uy:Code->List Nat
 | .region _ ops _=>ops.toList.filterMap (·.dst)
 | .seq a b | .cond _ a b=>uy a++uy b
 | .block _ b | .loop b | .scope b=>uy b
 | .rangeFunc g ps a b=>(match g with | .tmp t=>[t] | _=>[])++(ps.toList++(uy a++uy b))
 | _=>[]
def Ctl.dsts (ctl:Ctl) (c:Code):List Nat:=uy c++(ctl.fz.filter fun q=>decide (q.2<1000000000)).map (fun q=>q.2 % 1000000)
def Ctl.zE (ctl:Ctl) (id:Nat):List Nat:=(ctl.fz.filter fun q=>q.1 == id).map (·.2)
def VV (k t:Nat) (Z:St) (K:St->Prop):Prop :=
 match Z.sl.getD t .undef with
 | .int kd j=>(0<=j/\j<k)/\Sd j (fun i=>K { Z with sl:=Z.sl.set t (.lit kd i) }) k
 | _=>K Z
def vU (nm:Bool) (n off c:Nat) (Z:St) (K:St->Prop):Prop :=
 match Z.bx.getD c none with
 | some x=>if x.arr then K Z else match x.cs.getD off .undef with
  | .aslc b o len esz ag=>match Z.zh b with
   | some cs=>if (qf x.cs).isNone && decide (n<=b) && !(b == c) then q6 Z.zh [(b,o+len*esz,esz,ag)] (VL nm esz ag len (cs.drop o) fun es=>K ⟨Z.sl,(Z.bx.set b none).set c (some { x with cs:=x.cs.set off (.slc 3 es) })⟩) else False
   | none=>False
  | _=>K Z
 | none=>K Z
def Uv (off c:Nat) (Z:St) (K:St->Prop):Prop :=
 match Z.bx.getD c none with
 | some x=>if x.arr || (qf x.cs).isSome then K Z else match x.cs.getD off .undef with
  | .slc (_+1) es=>∃ (v:AV) (r:List AV),es=v::r/\K ⟨Z.sl,Z.bx.set c (some { x with cs:=x.cs.set off (.slc 4 (v::r)) })⟩
  | .aslc b o len esz ag=>∃ k:Nat,len=k+1/\K ⟨Z.sl,Z.bx.set c (some { x with cs:=x.cs.set off (.aslc b o (k+1) esz ag) })⟩
  | _=>K Z
 | none=>K Z
def Ip (n t:Nat) (Z:St):Nat:=if t<3000000000 then n+t % 1000000 else (kI Z.zU 30 (AV.refs (Z.sl.getD (t % 1000000) .undef)) []).getD (t / 1000000000-3) 0
def Hb (t:Nat) (Z:St) (K:St->Prop):Prop :=
 (Z.sl.getD t .undef=.slc 0 []/\K { Z with sl:=Z.sl.set t (.slc 0 []) })\/∃ (v:AV) (r:List AV),Z.sl.getD t .undef=.slc 3 (v::r)/\K { Z with sl:=Z.sl.set t (.slc 3 (v::r)) }
def qj (n:Nat):List Nat->St->(St->Prop)->Prop
 | [],Z,K=>K Z
 | t::r,Z,K=>if 90000000000<=t then Hb (t-90000000000) Z fun Z=>qj n r Z K else if t<1000000 then wg false n t Z fun Z=>qj n r Z K else if t<1000000000 then (if t / 1000000=999 then wg true n (t % 1000000) Z fun Z=>qj n r Z K else VV (t / 1000000) (t % 1000000) Z fun Z=>qj n r Z K) else if t<2000000000 then vU false n (t / 1000000-1000) (n+t % 1000000) Z fun Z=>qj n r Z K else if 500<=t / 1000000 % 1000 then Uv (t / 1000000 % 1000-500) (Ip n t Z) Z fun Z=>qj n r Z K else vU true n (t / 1000000 % 1000) (Ip n t Z) Z fun Z=>qj n r Z K
def O2 (l:List Pat) (i:Option Nat):Option Pat :=
 match i with
 | some i=>l.find? fun p=>p.id == i
 | none=>none
mutual
def vp:AV->AV->Bool
 | .int k _,.int k' _=>decide (k=k')
 | .bool _,.bool _=>true
 | .str _,.str _=>true
 | .slc _ _,.slc 3 _=>true
 | .lit k n,.lit k' n'=>decide (k=k'/\n=n')
 | .tup _,.agg _=>true
 | .agg cs,.agg cs'=>jq cs cs'
 | .eptr cs o,.eptr cs' o'=>decide (o=o') && jq cs cs'
 | .iface t v,.iface t' v'=>decide (t=t') && vp v v'
 | .undef,v=>v.tree
 | .nilif,.slc 0 [] | .nilif,.slc 3 (_::_)=>true
 | _,_=>false
def jq:List AV->List AV->Bool
 | [],[]=>true
 | x::r,y::s=>vp x y && jq r s
 | _,_=>false
end
mutual
def MZ:AV->(AV->Prop)->Prop
 | .int k _,K=>∀ n:Int,K (.int k n)
 | .bool _,K=>∀ b:Bool,K (.bool b)
 | .str _,K=>∀ s:ByteArray,K (.str s)
 | .slc _ _,K=>∀ es:List AV,K (.slc 3 es)
 | .lit k n,K=>K (.lit k n)
 | .tup _,K=>∀ cs:List AV,K (.agg cs)
 | .agg cs,K=>YY cs fun cs=>K (.agg cs)
 | .eptr cs o,K=>YY cs fun cs=>K (.eptr cs o)
 | .iface t v,K=>MZ v fun v=>K (.iface t v)
 | .undef,K=>∀ v:AV,v.tree=true->K v
 | .nilif,K=>K (.slc 0 [])/\∀ (v:AV) (r:List AV),K (.slc 3 (v::r))
 | _,_=>True
def YY:List AV->(List AV->Prop)->Prop
 | [],K=>K []
 | x::r,K=>MZ x fun v=>YY r fun l=>K (v::l)
end
def MX:Nat->(List (List AV)->Prop)->Prop
 | 0,K=>K []
 | m+1,K=>∀ es:List AV,MX m fun l=>K (es::l)
def PD (ps:List (Nat × Nat)) (ts:List Nat) (b:Nat):Option Nat :=
 match ps.lookup b with
 | some i=>some i
 | none=>if ts.contains b then none else some b
def self (h:Nat->Option Nat) (b:Nat):Bool :=
 match h b with
 | some i=>i == b
 | none=>false
def AV.fixed (h:Nat->Option Nat) (v:AV):Bool:=v.refs.all (self h)
def xf (n:Nat) (p:Pat) (Z:St):List (Nat × Nat):=p.app.filterMap fun q=>match Z.sl.getD q.1 .undef with
 | .aslc b _ _ _ _=>some (b,n+q.1)
 | _=>none
def Pat.zG (n:Nat) (p:Pat) (Z:St):Nat->Option Nat:=PD (xf n p Z) (p.app.map fun q=>n+q.1)
def I1 (P:Program) (n:Nat) (p:Pat) (gs:List AV) (ls:List (List AV)):List (Nat × AV) :=
 (p.gen.map (·.1)).zip gs++List.zipWith (fun q es=>(q.1,.aslc (n+q.1) 0 es.length (P.cellsOf q.2) (yk P q.2))) p.app ls
def LQ (n:Nat) (p:Pat) (Z:St) (ls:List (List AV)) (bs:List AV):List (Nat × Bx) :=
 List.zipWith (fun q es=>(n+q.1,⟨q.2,true,es.flatMap AV.cells⟩)) p.app ls ++
 List.zipWith (fun q v=>(q.1,match Z.bx.getD q.1 none with
  | some x=>{ x with cs:=v.cells }
  | none=>⟨0,false,v.cells⟩)) p.bgen bs
def qN (P:Program) (n:Nat) (keep D:List Nat) (p:Pat) (Z:St) (gs:List AV) (ls:List (List AV)) (bs:List AV):St :=
 ⟨Wt Z.sl fun t v=>if keep.contains t then (match (I1 P n p gs ls).lookup t with
   | some v=>v
   | none=>if D.contains t then .undef else v) else .undef,
  Wt Z.bx fun b x=>match (LQ n p Z ls bs).lookup b with
   | some y=>some y
   | none=>if (xf n p Z).any (fun q=>q.1 == b) then none else x⟩
def xG (gs:List AV) (ls:List (List AV)) (bs:List AV):List AV:=gs++(ls.map (AV.slc 3)++bs)
def S5 (P:Program) (n:Nat) (keep D:List Nat) (p:Pat) (Z:St) (C:List AV->St->Prop):Prop :=
 YY (p.gen.map (·.2)) fun gs=>MX p.app.length fun ls=>YY (p.bgen.map (·.2)) fun bs=>C (xG gs ls bs) (qN P n keep D p Z gs ls bs)
def LL (sk v:AV):AV:=match sk with
 | .nilif=>v
 | _=>v.norm
def WH (Z:St):List (Nat × AV)->Option (List AV)
 | []=>some []
 | (t,sk)::r=>if (Z.sl.getD t .undef).tree && vp sk (LL sk (Z.sl.getD t .undef)) then (WH Z r).map (LL sk (Z.sl.getD t .undef)::·) else none
def Y3 (Z0 Z:St):List (Nat × AV)->Option (List AV)
 | []=>some []
 | (b,sk)::r=>match Z0.bx.getD b none,Z.bx.getD b none with
  | some x,some y=>if x.arr == y.arr && (x.arr || AV.zi y.cs) && vp sk (.agg (AV.zb y.cs)) then (Y3 Z0 Z r).map (.agg (AV.zb y.cs)::·) else none
  | _,_=>none
def uV (P:Program) (Z:St):List (Nat × TypeId)->(List (List AV)->Prop)->Prop
 | [],C=>C []
 | (t,e)::r,C=>match Z.sl.getD t .undef with
  | .slc 0 [] | .slc 2 []=>uV P Z r fun l=>C ([]::l)
  | .aslc b off len esz ag=>match Z.bx.getD b none with
   | some x=>if x.arr && off == 0 && esz == P.cellsOf e && ag == yk P e then ∃ es:List AV,(es.length=len/\es.flatMap AV.cells=x.cs)/\uV P Z r fun l=>C (es::l) else False
   | none=>False
  | _=>False
def uH (entry:Bool) (h:Nat->Option Nat) (skip:Nat->Bool) (Z:St):Nat->List (Option Bx)->Prop->Prop
 | _,[],C=>C
 | b,none::r,C=>uH entry h skip Z (b+1) r C
 | b,some x::r,C=>if skip b then uH entry h skip Z (b+1) r C else
  match Z.bx.getD b none with
  | some y=>if y.arr == x.arr && self h b && (x.arr || x.cs.all (AV.fixed h)) then
    if entry then uH entry h skip Z (b+1) r C else y.cs=x.cs/\uH entry h skip Z (b+1) r C
   else False
  | none=>False
def LR (n:Nat) (keep D:List Nat) (p:Pat) (Z0 Z:St):Bool :=
 decide ((p.app.map (·.1)).Nodup) && decide (((xf n p Z).map (·.1)).Nodup) &&
 p.bgen.all (fun q=>self (p.zG n Z) q.1) &&
 keep.all (fun t=>D.contains t || (Z0.sl.getD t .undef).fixed (p.zG n Z))
def xK (D:List Nat) (p:Pat):Bool:=(p.gen.map (·.1)++p.app.map (·.1)).all (fun t=>D.contains t)
def Oh (P:Program) (n:Nat) (keep D:List Nat) (p:Pat) (entry:Bool) (Z0 Z:St) (C:List AV->Prop):Prop :=
 if LR n keep D p Z0 Z then
  uH entry (p.zG n Z) (fun b=>(p.bgen.map (·.1)).contains b || (p.app.map fun q=>n+q.1).contains b || (xf n p Z0).any (fun q=>q.1 == b)) Z 0 Z0.bx <|
  match WH Z p.gen,Y3 Z0 Z p.bgen with
  | some gs,some bs=>uV P Z p.app fun ls=>C (xG gs ls bs)
  | _,_=>False
 else False
def XG (Z:St) (b off:Nat):AV:=match Z.bx.getD b none with
 | some x=>x.cs.getD off .undef
 | none=>.undef
def Xq (bx:List (Option Bx)) (b off:Nat) (v:AV):List (Option Bx):=match bx.getD b none with
 | some x=>bx.set b (some { x with cs:=x.cs.set off v })
 | none=>bx
def uI (q:Nat × Nat × TypeId) (Z:St):St:=⟨Z.sl++[XG Z q.1 q.2.1],Xq Z.bx q.1 q.2.1 .undef⟩
def jS:List (Nat × Nat × TypeId)->St->St
 | [],Z=>Z
 | q::r,Z=>jS r (uI q Z)
def Yo (q:Nat × Nat × TypeId) (τ:St):St:=⟨τ.sl.take (τ.sl.length-1),Xq τ.bx q.1 q.2.1 (τ.sl.getD (τ.sl.length-1) .undef)⟩
def wR:List (Nat × Nat × TypeId)->St->St
 | [],τ=>τ
 | q::r,τ=>Yo q (wR r τ)
def qG (L:Nat) (cap:List (Nat × Nat × TypeId)):List Nat:=(List.range cap.length).map (L+·)
def Pat.up (L:Nat) (p:Pat):Pat:={ p with app:=p.app++List.zipWith (fun t q=>(t,q.2.2)) (qG L p.cap) p.cap }
def OH (h:Nat->Option Nat):List (Nat × Nat × TypeId)->St->Bool
 | [],_=>true
 | q::r,Z=>(match Z.bx.getD q.1 none with
  | some x=>!x.arr && (qf x.cs).isNone && decide (q.2.1<x.cs.length)
  | none=>false) && self h q.1 && OH h r (uI q Z)
def qa (P:Program) (n:Nat) (keep D:List Nat) (p:Pat) (entry:Bool) (Z0 Z:St) (C:List AV->Prop):Prop :=
 let L:=Z0.sl.length
 if OH ((p.up L).zG n (jS p.cap Z)) p.cap Z then Oh P n (keep++qG L p.cap) (D++qG L p.cap) (p.up L) entry (jS p.cap Z0) (jS p.cap Z) C else False
def jO (P:Program) (n:Nat) (keep D:List Nat) (p:Pat) (Z:St) (C:List AV->St->Prop):Prop :=
 let L:=Z.sl.length
 S5 P n (keep++qG L p.cap) (D++qG L p.cap) (p.up L) (jS p.cap Z) fun vs τ=>C vs (wR p.cap τ)
def I4 (Z:St) (b:Nat):Bool:=match Z.bx.getD b none with
 | some x=>x.mp.isSome
 | none=>false
def Io (n:Nat) (Z:St) (c:Nat):Nat :=
 if c<1000000 then n+c else if c<2000000 then c-1000000 else if c<3000000 then (match Z.sl.getD (c-2000000) .undef with
  | .ref b _=>b
  | .aslc b ..=>b
  | _=>1000000) else ((kI Z.zU 30 (AV.refs (Z.sl.getD (c-3000000) .undef)) []).find? (I4 Z)).getD 1000000
def Pat.res (n:Nat) (Z:St) (p:Pat):Pat:={ p with bgen:=(p.bgen.map fun q=>(Io n Z q.1,q.2)).filter fun q=>!(q.1 == 1000000),cap:=p.cap.map fun q=>(Io n Z q.1,q.2) }
def OZ (P:Program) (n:Nat) (keep D:List Nat) (p:Pat) (f:St->(Ex->St->Prop)->Prop) (Z:St) (K:Ex->St->Prop):Prop :=
 if xK D p then ∃ I:Nat->List AV->Prop,qa P n keep D p true Z Z (fun vs=>∃ m,I m vs) /\
  ∀ m:Nat,jO P n keep D p Z fun vs τ=>I m vs->f τ fun e Z1=>match e with
   | .normal=>qa P n keep D p false Z Z1 fun vs=>∃ k,k<m/\I k vs
   | e=>K e Z1
 else False
def OU (P:Program) (n:Nat) (keep D:List Nat) (p:Pat) (f g:St->(Ex->St->Prop)->Prop) (Z:St) (K:Ex->St->Prop):Prop :=
 if xK D p then ∃ J:List AV->Prop,(f Z fun e Z1=>match e with
   | .normal=>qa P n keep D p false Z Z1 J
   | e=>K e Z1)/\jO P n keep D p Z fun vs τ=>J vs->g τ K
 else False
mutual
def AV.z8:AV->AV
 | .map _=>.undef
 | .eptr cs o=>.eptr (AV.zn cs) o
 | .agg cs=>.agg (AV.zn cs)
 | v=>v
def AV.zn:List AV->List AV
 | []=>[]
 | x::r=>x.z8::AV.zn r
end
def jT (sl:List AV):List Nat->List AV->List AV
 | p::ps,x::xs=>jT (sl.set p x) ps xs
 | _,_=>sl
def St.more (Z:St) (k:Nat):St:=⟨Z.sl,Z.bx++List.replicate k none⟩
def yF:Code->Bool
 | .rangeFunc ..=>false
 | .seq a b | .cond _ a b=>yF a && yF b
 | .block _ b | .loop b | .scope b=>yF b
 | _=>true
def Se:Operand->List Nat
 | .tmp t=>[t]
 | _=>[]
def YO (n:Nat) (ps:List Nat) (f:St->(Ex->St->Prop)->Prop) (K:Ex->St->Prop):List (List AV)->St->Prop
 | [],τ=>K .normal τ
 | x::r,τ=>if yA τ && decide (n<=τ.bx.length) then f ⟨jT τ.sl ps x,τ.bx++List.replicate τ.sl.length none⟩ fun e Z1=>if qC n τ.bx Z1.bx then (match e with
    | .normal=>YO n ps f K r ⟨τ.sl,Z1.bx⟩
    | e=>K e ⟨τ.sl,Z1.bx⟩) else False
   else False
def X0 (Z:St) (l:List AV):List Nat:=kI (fun b=>(Z.box b).map AV.zn) 30 (AV.zd (AV.zn l)) []
def T9 (P:Program) (S:Specs) (n:Nat) (keep cl:List Nat) (p:Pat) (g:Operand) (ps:List Nat) (f:St->(Ex->St->Prop)->Prop) (Z:St) (K:Ex->St->Prop):Prop :=
 match ev Z g with
 | .fn gf [] capz =>
  match (X0 Z capz).mapM (fun b=>Z.bx.getD b none) with
  | some bs =>
   if bs.all (fun x=>!x.arr && (AV.za x.cs).isEmpty) && (AV.za (AV.zn capz)).isEmpty && decide (X0 Z capz).Nodup && decide (p.yl.length=ps.length) && xK [] p then
    ∃ xs:List (List AV),S.seq gf (AV.zb (AV.zg (idx · (X0 Z capz)) (AV.zn capz))) (bs.map fun x=>AV.zb (AV.zg (idx · (X0 Z capz)) (AV.zn x.cs))) xs /\
     (let Z0:St:=⟨(Se g++cl).foldl (fun l t=>l.set t .undef) Z.sl,Wt Z.bx fun b x=>if (X0 Z capz).contains b then none else x⟩
      if p.un.any List.isEmpty=true then
      (∀ x∈xs,jq p.yl x=true/\AV.zi x=true)/\(xs=[]->K .normal Z0) /\
      let p:=p.res n Z0
      ∃ I:Nat->List AV->Prop,(YY p.yl fun x=>xs[0]?=some x ->
       if yA Z0 && decide (n<=Z0.bx.length) then f ⟨jT Z0.sl ps x,Z0.bx++List.replicate Z0.sl.length none⟩ fun e Z1=>if qC n Z0.bx Z1.bx then (match e with
        | .normal=>qa P n keep [] p false Z0 ⟨Z0.sl,Z1.bx⟩ (I 1)
        | e=>K e ⟨Z0.sl,Z1.bx⟩) else False
       else False) /\
       (∀ i:Nat,YY p.yl fun x=>xs[i+1]?=some x->jO P n keep [] p Z0 fun vs τ=>I (i+1) vs ->
       if yA τ && decide (n<=τ.bx.length) then f ⟨jT τ.sl ps x,τ.bx++List.replicate τ.sl.length none⟩ fun e Z1=>if qC n τ.bx Z1.bx then (match e with
        | .normal=>qa P n keep [] p false Z0 ⟨τ.sl,Z1.bx⟩ (I (i+2))
        | e=>K e ⟨τ.sl,Z1.bx⟩) else False
       else False) /\
       jO P n keep [] p Z0 fun vs τ=>I xs.length vs->K .normal τ
      else
      if p.un.isEmpty=false then ((p.un.all fun x=>AV.zi x && x.length == ps.length)=true/\xs=p.un)/\YO n ps f K p.un Z0 else
      (∀ x∈xs,jq p.yl x=true/\AV.zi x=true) /\
      let p:=p.res n Z0
      ∃ I:Nat->List AV->Prop,qa P n keep [] p true Z0 Z0 (I 0) /\
      (∀ i:Nat,YY p.yl fun x=>xs[i]?=some x->jO P n keep [] p Z0 fun vs τ=>I i vs ->
       if yA τ && decide (n<=τ.bx.length) then f ⟨jT τ.sl ps x,τ.bx++List.replicate τ.sl.length none⟩ fun e Z1=>if qC n τ.bx Z1.bx then (match e with
        | .normal=>qa P n keep [] p false Z0 ⟨τ.sl,Z1.bx⟩ (I (i+1))
        | e=>K e ⟨τ.sl,Z1.bx⟩) else False
       else False) /\
      jO P n keep [] p Z0 fun vs τ=>I xs.length vs->K .normal τ)
   else False
  | none=>False
 | _=>False
end
structure Hook where
 kind:Nat
 cnt:Nat
 ins:List Nat
 outs:List Nat
 clob:List Nat
def PF:AV->List Nat
 | .tup l=>l.filterMap fun v=>match v with
  | .lit _ n=>some n.toNat
  | _=>none
 | _=>[]
def TP:List AV->Option Hook
 | [.lit _ k,.lit _ c,i,o,q]=>some ⟨k.toNat,c.toNat,PF i,PF o,PF q⟩
 | _=>none
def wM (w:Ways) (id:Option Nat):Option Hook:=match id with
 | some id=>if w.ro.contains 995000000 then none else (w.alts.lookup (990000000+id)).bind TP
 | none=>none
def yL (L:List (List Int)) (i k:Nat) (j:Int):List (List Int):=L.set i ((L.getD i []).take k++j::(L.getD i []).drop k)
def VC (L:List (List Int)):AV:=.slc 3 (L.map fun x=>.slc 3 (x.map (AV.int .i64)))
def YH (h:Hook) (Z:St):St:=⟨(h.outs++h.clob).foldl (fun l t=>l.set t .undef) Z.sl,Z.bx⟩
def UI (h:Hook) (Z:St) (K:St->Prop):Prop :=
 if (h.ins++(h.outs++h.clob)).all (fun t=>decide (t<Z.sl.length))=false then False else
 match h.kind,h.ins.map (fun t=>Z.sl.getD t .undef),h.outs with
 | 0,[.slc _ es,i,k,j],[d]=>match i.zr,k.zr,j.zr with
  | some (.i64,i,_),some (.i64,k,_),some (.i64,j,_)=>∃ L:List (List Int),(AV.slc 3 es=VC L/\0<=i/\i<L.length/\0<=k/\k<=(L.getD i.toNat []).length/\L.length<=1000/\∀ x∈L,x.length<=1000) /\
    K ((YH h Z).put (some d) (VC (yL L i.toNat k.toNat j)))
  | _,_,_=>False
 | _,_,_=>False
def jW:Nat->Code->Code
 | k+1,.seq _ b=>jW k b
 | _,c=>c
def qB (P:Program) (S:Specs) (ctl:Ctl):Code->Nat->Nat->St->(Ex->St->Prop)->Prop
 | .skip,_,_,Z,K=>K .normal Z
 | .region id ops false,_,n,Z,K=>qj n (ctl.zE id) Z fun Z=>if L7 P ops.toList then uu P S n ops.toList none Z fun Z=>Yy ctl.keep Z (K .normal) else xe P S n (qc ops.toList) ops.toList Z fun Z=>Yy ctl.keep Z (K .normal)
 | .region id ops true,_,n,Z,K=>qj n (ctl.zE id) Z fun Z=>ky (G7 S.frs ops ops.size (List.range ops.size) []) fun ord=>if (ur S.frs ops).all (fun d=>vV n d Z) && U6 ops ord then Ux P S n ops ord Z fun Z=>Yy ctl.keep Z (K .normal) else False
 | .seq a b,sk,n,Z,K=>if sk≠0 then qB P S ctl b (sk-1) n Z K else match wM S.frs (jJ a) with
  | some h=>if (h.outs++h.clob).all (fun t=>(ctl.dsts (.seq a b)).contains t) then UI h Z fun Z=>qB P S ctl b h.cnt n Z K else False
  | none=>match O2 ctl.joins (jJ b) with
  | some p=>OU P n ctl.keep (ctl.dsts a) (p.res n Z) (fun Z K'=>qB P S ctl a 0 n Z fun e Z=>match e with
    | .normal=>qj n (ctl.zE (p.id+5000000)) Z fun Z=>K' .normal Z
    | e=>K' e Z) (qB P S ctl b 0 n) Z K
  | none=>qB P S ctl a 0 n Z fun e Z=>match e with
   | .normal=>qB P S ctl b 0 n Z K
   | e=>K e Z
 | .cond c a b,_,n,Z,K=>match ev Z c with
  | .tt=>qB P S ctl a 0 n Z K
  | .ff=>qB P S ctl b 0 n Z K
  | .bool x=>br x (qB P S ctl a 0 n Z K) (qB P S ctl b 0 n Z K)
  | _=>False
 | .block id b,_,n,Z,K=>qB P S ctl b 0 n Z fun e Z=>match e with
  | .exit i=>if i=id then K .normal Z else K (.exit i) Z
  | e=>K e Z
 | .loop b,_,n,Z,K=>match O2 ctl.loops (jJ b) with
  | some p=>OZ P n ctl.keep (ctl.dsts b) (p.res n Z) (qB P S ctl b 0 n) Z K
  | none=>Qg (qB P S ctl b 0 n) 8 Z K
 | .exit id,_,_,Z,K=>K (.exit id) Z
 | .ret,_,_,Z,K=>K .ret Z
 | .rangeFunc g ps a b,_,n,Z,K=>match O2 ctl.loops (jJ b) with
  | some p=>if yF a && yF b then T9 P S n ctl.keep ((ctl.fz.filter fun q=>decide (q.2<1000000000)).map fun q=>q.2 % 1000000) p g ps.toList (fun τ K'=>qB P S ctl a 0 (τ.bx.length-τ.sl.length) τ fun e Za=>match e with
    | .normal=>if yA Za && (List.range (τ.bx.length-τ.sl.length)).all (fun b=>qk τ.bx b == qk Za.bx b) then qB P S ctl b 0 Za.bx.length (Za.more (Za.sl.length+8)) K' else False
    | _=>False) Z K else False
  | none=>False
 | _,_,_,_,_=>False
abbrev awp (P:Program) (S:Specs) (n:Nat) (ctl:Ctl) (c:Code) (Z:St) (K:Ex->St->Prop):Prop:=qB P S ctl c 0 n Z K
section
variable (P:Program) (S:Specs) (n:Nat)

mutual
def AV.sub (fr:Nat->Nat->AV) (fa:Nat->Nat->Nat->Nat->Bool->AV):AV->AV
 | .ref b off=>fr b off
 | .aslc b off len esz ag=>fa b off len esz ag
 | .map b=>match fr b 0 with
  | .ref i _=>.map i
  | _=>.undef
 | .fn g a b=>.fn g (AV.zA fr fa a) (AV.zA fr fa b)
 | .iface t v=>.iface t (v.sub fr fa)
 | .eptr cs off=>.eptr (AV.zA fr fa cs) off
 | .agg cs=>.agg (AV.zA fr fa cs)
 | .tup cs=>.tup (AV.zA fr fa cs)
 | v=>v
def AV.zA (fr:Nat->Nat->AV) (fa:Nat->Nat->Nat->Nat->Bool->AV):List AV->List AV
 | []=>[]
 | x::r=>x.sub fr fa::AV.zA fr fa r
end
def Jt (m:Nat) (Z:St) (g:AV->AV) (b off:Nat):AV :=
 if b<m then .ref b off else
  match Z.bx.getD b none with
  | some x=>if x.arr || (qf x.cs).isSome then .undef else if AV.zi (x.cs.map g) then .eptr (AV.zb (x.cs.map g)) off else .undef
  | none=>.undef
def Js (m:Nat) (Z:St):Nat->AV->AV
 | 0=>AV.sub (fun b off=>if b<m then .ref b off else .undef) (fun _ _ _ _ _=>.undef)
 | k+1=>AV.sub (Jt m Z (Js m Z k)) (fun _ _ _ _ _=>.undef)
def frz (m:Nat) (Z:St):AV->AV :=
 AV.sub (Jt m Z (Js m Z 3))
  (fun b off len esz ag=>match Z.zh b with
   | some cs=>if b<m then .aslc b off len esz ag else .slc 3 (chunks esz ag len (cs.drop off))
   | none=>.undef)
def OV (m b:Nat):Option Nat:=if b<m then some b else none
def Uj (Z:St):ResultVar->Option AV
 | .tmp t=>some (Z.sl.getD t .undef)
 | .cell a t=>match Z.sl.getD a .undef with
  | .ref b off=>match Z.box b with
   | some cs=>if (qf cs).isSome then none else kG P t cs off
   | none=>none
  | .eptr cs off=>kG P t cs off
  | _=>none
def Xw:List AV->AV
 | [v]=>v
 | vs=>.tup vs
def UB (Z:St):List Nat->Prop->Prop
 | [],K=>K
 | b::r,K=>match Z.bx.getD b none with
  | some x=>if x.arr then x.cs.all wv=true/\UB Z r K else UB Z r K
  | none=>UB Z r K
def JT (fn:Func) (Z:St) (Q:AV->List (List AV)->Prop):Prop :=
 match fn.results.toList.mapM (Uj P Z) with
 | some vs =>
  match (List.range n).mapM (fun b=>Z.bx.getD b none) with
  | some X=>if (X.all fun x=>x.arr || xm x.cs (x.cs.map (frz n Z)))=false then False else
   UB Z (List.range n) <| q6 Z.zh (AV.za vs++AV.za (X.flatMap fun x=>if x.arr then [] else x.cs)) <| Q (((frz n Z (Xw vs)).zj (OV n)).zF) (X.map fun x=>if x.arr then x.cs else AV.zb (AV.zg (OV n) (x.cs.map (frz n Z))))
  | none=>False
 | none=>False
def XV (fn:Func) (args:List AV) (boxes:List Bx):St :=
 ⟨args++List.replicate (fn.ntmps-args.length) .undef,boxes.map some++List.replicate (fn.ntmps+8) none⟩
def M4 (ctl:Ctl) (fn:Func) (args:List AV) (boxes:List Bx) (Q:AV->List (List AV)->Prop):Prop :=
 match fn.body with
 | some c=>awp P S n ctl c (XV fn args boxes) fun e Z=>match e with
  | .normal | .ret=>JT P n fn Z Q
  | _=>False
 | none=>False
def NT (f:FuncId) (args:List AV) (Z:St) (K:AV->St->Prop):Prop :=
 match S.frs.il.lookup f,P.funcs[f]? with
 | some ctl,some fn=>match fn.body with
  | some c=>if decide (args.length<=fn.ntmps) && yA ⟨Z.sl++args,Z.bx⟩ then
    awp P S Z.bx.length ctl c ⟨args++List.replicate (fn.ntmps-args.length) .undef,Z.bx++List.replicate (fn.ntmps+8) none⟩ fun e τ=>match e with
     | .normal | .ret=>match fn.results.toList.mapM (Uj P τ) with
      | some vs=>K (Xw vs) ⟨Z.sl,τ.bx⟩
      | none=>False
     | _=>False
   else False
  | none=>False
 | _,_=>False
def mkS (sp:SpecF) (fr:FuncId->List AV->Nat->List AV->Prop) (sq:FuncId->List AV->List (List AV)->List (List AV)->Prop) (w:Ways):Nat->Specs
 | 0=>⟨sp,fr,w,fun _ _ _ _=>False,sq⟩
 | k+1=>⟨sp,fr,w,NT P (mkS sp fr sq w.inner k),sq⟩
end
end Go.Proofs.YtdeeekgohhkdbaaGreatDoor
