/- The evaluator. -/
import Derived.Test.YtdeeekgohhkdbaaGreatDoorGl
import Derived.MapKept
import Derived.DeepKeys3
namespace Go.Proofs.YtdeeekgohhkdbaaGreatDoor
open Go.RowKit
abbrev yn (l:List AV):Prop:=l=l
structure Bx where
 ty:TypeId
 arr:Bool
 cs:List AV
def Bx.refs (x:Bx):List Nat:=if x.arr then [] else AV.zd x.cs
def kV:AV->Option (List AV)
 |.iface t (.slc _ es)=>if t=1000000 then some es else none
 |_=>none
def qh:List AV->Option (List AV)
 |[x]=>kV x
 |_=>none
def Bx.mp (x:Bx):Option (List AV):=if x.arr then none else qh x.cs
def xB (cs cs':List AV):Bool:=(qh cs).isSome || (qh cs').isNone
structure St where
 sl:List AV
 bx:List (Option Bx)
def xW {α β:Type} (f:Nat->α->β):Nat->List α->List β
 |_,[]=>[]
 |i,x::r=>f i x::xW f (i+1) r
def WG {α β:Type} (l:List α) (f:Nat->α->β):List β:=xW f 0 l
theorem PO {α β:Type} (f:Nat->α->β):∀(l:List α) (i j:Nat),(xW f i l)[j]? = (l[j]?).map (f (i+j)):=by
 intro l;induction l with
 |nil=>intro i j;rfl
 |cons x r ih =>
  intro i j;cases j with
  |zero=>rfl
  |succ j=>simp only[xW,List.getElem?_cons_succ,ih];rw[show i+1+j=i+(j+1) by omega]
theorem wG {α β:Type} {l:List α} {f:Nat->α->β} {j:Nat}:(WG l f)[j]? = (l[j]?).map (f j):=by
 unfold WG;rw[PO,Nat.zero_add]
theorem uP {α β:Type} {l:List α} {f:Nat->α->β}:(WG l f).length=l.length:=by
 have:∀(l:List α) (i:Nat),(xW f i l).length=l.length:=by
  intro l;induction l with
  |nil=>intro i;rfl
  |cons x r ih=>intro i;simp only[xW,List.length_cons,ih]
 exact this l 0
def St.put (Z:St) (d:Option Nat) (v:AV):St :=
 match d with
 |some d=>{ Z with sl:=Z.sl.set d v }
 |none=>Z
def St.box (Z:St) (b:Nat):Option (List AV):=(Z.bx.getD b none).map (·.cs)
def St.zX (Z:St) (b:Nat):Option (List AV) :=
 match Z.bx.getD b none with
 |some x=>if x.arr then some [] else some x.cs
 |none=>none
def St.zh (Z:St) (b:Nat):Option (List AV) :=
 match Z.bx.getD b none with
 |some x=>if x.mp.isSome then none else if x.arr then some x.cs else if AV.zi x.cs then some (AV.za x.cs) else none
 |none=>none
def ofV1:Value->AV
 |.bool true=>.tt
 |.bool false=>.ff
 |.int k n=>.lit k n
 |.string s=>.str s
 |.pointer none=>.nilp
 |.slice none 0 0=>.slc 0 []
 |.map none=>.nilmap
 |.nilFunc=>.nilfn
 |.nilIface=>.nilif
 |_=>.undef
def ofV:Value->AV
 |.agg cs=>.agg (cs.toList.map ofV1)
 |v=>ofV1 v
def ev (Z:St):Operand->AV
 |.tmp t=>Z.sl.getD t .undef
 |.const v=>ofV v
 |.global g=>match UN g with
  |some cs=>.eptr cs 0
  |none=>.undef
 |.func f=>.fn f [] []
def AV.zU:AV->Option Bool
 |.tt=>some true
 |.ff=>some false
 |.bool b=>some b
 |_=>none
def AV.zr:AV->Option (IntKind × Int × Bool)
 |.lit k n=>some (k,n,true)
 |.int k n=>some (k,n,false)
 |_=>none
def mkI (k:IntKind) (n:Int) (known:Bool):AV:=if known then .lit k n else .int k n
def mkB (b:Bool) (known:Bool):AV:=if known then (if b then .tt else .ff) else .bool b
def yw (l:List AV):Bool:=l.all AV.one
def yp (P:Program) (t:TypeId):Bool :=
 match P.underlying t with
 |some (.struct _) | some (.array _ _)=>true
 |_=>false
def qT (P:Program) (t:TypeId) (cs:List AV) (off:Nat):Option AV :=
 match P.underlying t with
 |some (.struct _) | some (.array _ _)=>if off+P.cellsOf t<=cs.length then some (.agg ((cs.drop off).take (P.cellsOf t))) else none
 |some _=>cs[off]?
 |none=>none
def setCells (cs:List AV) (off:Nat) (vs:List AV):List AV:=cs.take off++(vs++cs.drop (off+vs.length))
def AV.zl:AV->Bool
 |.undef | .tup _=>false
 |_=>true
def wN (P:Program) (t:TypeId):Option AV :=
 match (P.info? t).bind (·.zero) with
 |some z=>if (ofV z).zl then some (ofV z) else none
 |none=>none
def uF (place:Nat->Option (Nat × Nat)):List AV->List (Nat × AV)->Option (List AV)
 |cs,[]=>some cs
 |cs,(i,v)::r =>
  match place i with
  |none=>none
  |some (off,size)=>if v.zl=false\/v.cells.length≠size\/off+v.cells.length>cs.length then none else uF place (setCells cs off v.cells) r
def vn (eq:TypeId->AV->AV->Option Bool) (P:Program) (xs ys:List AV):List Field->Option Bool
 |[]=>some true
 |f::r =>
  if f.name ≠ "_" then
   match qT P f.type xs f.offset,qT P f.type ys f.offset with
   |some a,some b =>
    match eq f.type a b,vn eq P xs ys r with
    |some x,some y=>some (x && y)
    |_,_=>none
   |_,_=>none
  else vn eq P xs ys r
def Xo (eq:AV->AV->Option Bool) (P:Program) (e:TypeId) (xs ys:List AV):Nat->Nat->Option Bool
 |_,0=>some true
 |i,n+1 =>
  match qT P e xs (i*P.cellsOf e),qT P e ys (i*P.cellsOf e) with
  |some a,some b =>
   match eq a b,Xo eq P e xs ys (i+1) n with
   |some x,some y=>some (x && y)
   |_,_=>none
  |_,_=>none
def AV.zE:AV->Bool
 |.slc 0 []=>true
 |_=>false
def AV.zY:AV->Option Bool
 |.slc 0 []=>some true
 |.slc _ (_::_)=>some false
 |.aslc _ _ (_+1) _ _=>some false
 |_=>none
def eqA (P:Program):Nat->TypeId->AV->AV->Option Bool
 |0,_,_,_=>none
 |d+1,t,x,y =>
  match P.underlying t with
  |some .bool=>match x.zU,y.zU with | some a,some b=>some (a == b) | _,_=>none
  |some (.int _)=>match x.zr,y.zr with | some (k,a,_),some (k',b,_)=>if k=k' then some (a == b) else none | _,_=>none
  |some .string=>match x,y with | .str a,.str b=>some (a.toList == b.toList) | _,_=>none
  |some (.pointer _)=>match x,y with
   |.nilp,.nilp=>some true
   |.nilp,.eptr .. | .nilp,.ref .. | .eptr ..,.nilp | .ref ..,.nilp=>some false
   |_,_=>none
  |some (.interface _)=>match x,y with
   |.nilif,.iface .. | .iface ..,.nilif=>some false
   |_,_=>none
  |some (.func ..)=>match x,y with
   |.nilfn,.nilfn=>some true
   |.nilfn,.fn .. | .fn ..,.nilfn=>some false
   |_,_=>none
  |some (.slice _)=>if x.zE then y.zY else if y.zE then x.zY else none
  |some (.struct fs)=>match x,y with
   |.agg xs,.agg ys=>if P.stoodInHeld t then none else vn (eqA P d) P xs ys fs.toList
   |_,_=>none
  |some (.array n e)=>match x,y with
   |.agg xs,.agg ys=>if (P.underlying e).isNone then none else Xo (eqA P d e) P e xs ys 0 n
   |_,_=>none
  |_=>none
def Ls:BinOp->Option Bool
 |.eql=>some true
 |.neq=>some false
 |_=>none
def KD (op:BinOp) (k:IntKind) (a b:Int) (l:Bool):Option AV :=
 match op with
 |.add=>some (mkI k (k.wrap (a+b)) l)
 |.sub=>some (mkI k (k.wrap (a-b)) l)
 |.mul=>some (mkI k (k.wrap (a*b)) l)
 |.and=>some (mkI k (k.wrap (BitVec.ofInt k.bits a &&& BitVec.ofInt k.bits b).toNat) l)
 |.or=>some (mkI k (k.wrap (BitVec.ofInt k.bits a ||| BitVec.ofInt k.bits b).toNat) l)
 |.xor=>some (mkI k (k.wrap (BitVec.ofInt k.bits a ^^^ BitVec.ofInt k.bits b).toNat) l)
 |.andNot=>some (mkI k (k.wrap (BitVec.ofInt k.bits a &&& ~~~ BitVec.ofInt k.bits b).toNat) l)
 |.eql=>some (mkB (a == b) l)
 |.neq=>some (mkB (a != b) l)
 |.lss=>some (mkB (decide (a<b)) l)
 |.leq=>some (mkB (decide (a<=b)) l)
 |.gtr=>some (mkB (decide (a>b)) l)
 |.geq=>some (mkB (decide (a>=b)) l)
 |_=>none
def q8:Operand->Bool
 |.const .nilIface=>true
 |_=>false
def PE (P:Program) (t:TypeId):Bool :=
 match P.underlying t with
 |some (.interface _)=>true
 |_=>false
def AV.cmp:AV->Bool
 |.tt | .ff | .bool _ | .nilp | .eptr .. | .ref .. | .slc .. | .aslc .. | .fn .. | .nilfn | .iface .. | .nilif=>true
 |_=>false
def MY (P:Program) (op:BinOp) (t:TypeId) (c:Bool) (x y:AV):Option AV :=
 match x.zr,y.zr with
 |some (k,a,l),some (k',b,l')=>if k=k' then KD op k a b (l && l') else none
 |_,_ =>
  match x,y,op with
  |.str a,.str b,.eql=>some (.bool (a.toList == b.toList))
  |.str a,.str b,.neq=>some (.bool (!(a.toList == b.toList)))
  |.str a,.str b,.lss=>some (.bool (Op.bytesLess a.toList b.toList))
  |.str a,.str b,.leq=>some (.bool (Op.bytesLess a.toList b.toList || a.toList == b.toList))
  |.str a,.str b,.gtr=>some (.bool (!(Op.bytesLess a.toList b.toList || a.toList == b.toList)))
  |.str a,.str b,.geq=>some (.bool (!Op.bytesLess a.toList b.toList))
  |.str _,.str _,_=>none
  |.nilif,.nilif,op=>if c && PE P t then (Ls op).map fun e=>if e then .tt else .ff else none
  |.agg xs,.agg ys,op =>
   if P.eqGuardType P.depth t then none else
   match Ls op,eqA P 12 t (.agg xs) (.agg ys) with
   |some e,some b=>some (.bool (if e then b else !b))
   |_,_=>none
  |x,y,op =>
   if x.cmp && y.cmp then
    match Ls op,eqA P 12 t x y with
    |some e,some b=>some (match x.zU,y.zU with | some _,some _=>.bool (if e then b else !b) | _,_=>mkB (if e then b else !b) true)
    |_,_=>none
   else none
def JD (gt:Bool):AV->List AV->Option AV
 |x,[]=>some x
 |x,y::r =>
  match x.zr,y.zr with
  |some (k,a,l),some (_,b,l')=>JD gt (mkI k (if gt then (if b>a then b else a) else (if b<a then b else a)) (l && l')) r
  |_,_=>none
def jz (P:Program) (e:Operand->AV):Op->Option AV
 |.move x | .assign x=>some (e x)
 |.pick c a b =>
  match e c with
  |.tt=>some (e a)
  |.ff=>some (e b)
  |.bool x=>match (e a).zU,(e b).zU with
   |some y,some z=>some (.bool (if x then y else z))
   |_,_=>none
  |_=>none
 |.build t ps =>
  match P.info? t,P.underlying t with
  |some it,some (.array _ el) =>
   match it.zero,P.info? el with
   |some z,some ie=>if (ofV z).zl then (uF (fun i=>some (i*ie.size,ie.size)) (ofV z).cells (ps.toList.map fun p=>(p.1,e p.2))).map .agg else none
   |_,_=>none
  |some it,some (.struct fs) =>
   match it.zero,fs.toList.mapM (fun f=>(P.info? f.type).map fun i=>(f.offset,i.size)) with
   |some z,some places=>if (ofV z).zl then (uF (places.toArray[·]?) (ofV z).cells (ps.toList.map fun p=>(p.1,e p.2))).map .agg else none
   |_,_=>none
  |_,_=>none
 |.field t x f =>
  match P.underlying t,e x with
  |some (.struct fs),.agg cs=>match fs[f]? with
   |some fd=>qT P fd.type cs fd.offset
   |none=>none
  |_,_=>none
 |.extract x i=>match e x with | .tup vs=>vs[i]? | _=>none
 |.makeInterface t x=>match P.underlying t with | some (.interface _) | none=>none | some _=>some (.iface t (e x))
 |.makeFunc (.func f) first caps=>some (.fn f (first.toList.map e) (caps.toList.map e))
 |.convert s d x=>match P.underlying s,P.underlying d,(e x).zr with
  |some _,some (.int k),some (_,n,l)=>some (mkI k (k.wrap n) l)
  |_,_,_=>none
 |.unOp .not _ x=>match e x with
  |.tt=>some .ff
  |.ff=>some .tt
  |.bool b=>some (.bool !b)
  |_=>none
 |.unOp .neg _ x=>match (e x).zr with
  |some (k,n,l)=>some (mkI k (k.wrap (0-n)) l)
  |none=>none
 |.unOp .xor _ x=>match (e x).zr with
  |some (k,n,l)=>some (mkI k (k.wrap (BitVec.ofInt k.bits (if k.signed then -1 else k.max) ^^^ BitVec.ofInt k.bits n).toNat) l)
  |none=>none
 |.binOp op t x y _ =>
  match op with
  |.quo | .rem | .shl | .shr=>none
  |_=>MY P op t (q8 x || q8 y) (e x) (e y)
 |.nilCheck x=>match e x with
  |.ref b off=>some (.ref b off)
  |.eptr cs off=>some (.eptr cs off)
  |.iface t v=>some (.iface t v)
  |.fn f a b=>some (.fn f a b)
  |_=>none
 |.fieldAddr s x f =>
  match P.underlying s with
  |some (.struct fs)=>match fs[f]? with
   |some fd=>if P.cellsOf fd.type=0\/(P.underlying fd.type).isNone then none else
    match e x with
    |.ref b off=>some (.ref b (off+fd.offset))
    |.eptr cs off=>some (.eptr cs (off+fd.offset))
    |_=>none
   |none=>none
  |_=>none
 |.typeAssert x _ t ok =>
  match P.underlying t,e x with
  |some (.interface _),_ | none,_=>none
  |some _,.iface t' v=>if t'=t then some (if ok then .tup [v,.tt] else v) else (if ok then (wN P t).map fun z=>.tup [z,.ff] else none)
  |some _,.nilif=>if ok then (wN P t).map fun z=>.tup [z,.ff] else none
  |_,_=>none
 |.call c =>
  match c.callee,(c.args.toList.map e) with
  |.builtin .len,[x]=>match (c.argTypes[0]?).bind P.underlying,x with
   |some (.slice _),.slc m es=>some (mkI .i64 es.length (m == 4))
   |some (.slice _),.aslc _ _ len _ _=>some (.int .i64 len)
   |some .string,.str s=>some (.int .i64 s.size)
   |some (.array n _),_=>some (.lit .i64 n)
   |_,_=>none
  |.builtin .max,x::r=>JD true x r
  |.builtin .min,x::r=>JD false x r
  |_,_=>none
 |_=>none
def jG (P:Program):Nat->TypeId->(List AV->Prop)->Prop
 |0,_,_=>False
 |d+1,t,K =>
  match P.underlying t with
  |some .bool=>∃b:Bool,K [.bool b]
  |some (.int k)=>∃n:Int,K [.int k n]
  |some .string=>∃s:ByteArray,K [.str s]
  |some (.slice _)=>∃es:List AV,K [.slc 3 es]
  |some (.struct fs)=>fs.toList.foldr (fun f k acc=>jG P d f.type fun cs=>k (acc++cs)) K []
  |some (.array n e)=>Nat.rec (motive:=fun _=>List AV->Prop) K (fun _ k acc=>jG P d e fun cs=>k (acc++cs)) n []
  |_=>∃v:AV,K [v]
def exT (P:Program) (t:TypeId) (K:AV->Prop):Prop :=
 jG P 8 t fun cs=>K (if yp P t then .agg cs else cs.getD 0 .undef)
def K1 (P:Program):List TypeId->(AV->Prop)->Prop
 |[],K=>K (.tup [])
 |[t],K=>exT P t K
 |ts,K=>ts.foldr (fun t k acc=>exT P t fun v=>k (acc++[v])) (fun vs=>K (.tup vs)) []
def br (b:Bool) (A B:Prop):Prop:=(b=true->A)/\(b=false->B)
def QK (j:Int) (F:Nat->Prop):Nat->Prop
 |0=>True
 |n+1=>(j=(n:Int)->F n)/\QK j F n
def Qp (n:Nat) (i:AV) (F:Nat->Prop):Prop :=
 match i.zr with
 |some (_,j,true)=>if 0<=j/\j<n then F j.toNat else False
 |some (_,j,false)=>(0<=j/\j<n)/\QK j F n
 |none=>False
def v7 (b:Nat) (Z:St):Bool :=
 !(AV.zd Z.sl).contains b && Z.bx.all fun | some x=>!x.refs.contains b | none=>true
def qS (n d:Nat) (x:Bx) (p:AV) (Z:St) (K:St->Prop):Prop :=
 if x.mp.isNone && v7 (n+d) { sl:=Z.sl.set d .undef,bx:=Z.bx.set (n+d) none } && !x.refs.contains (n+d) && decide (d<Z.sl.length) && decide (n+d<Z.bx.length) then K { sl:=Z.sl.set d p,bx:=Z.bx.set (n+d) (some x) } else False
def kL (bx:Nat->Option (List AV)):Nat->List Nat->List Nat->List Nat
 |0,_,seen=>seen
 |_+1,[],seen=>seen
 |k+1,b::r,seen =>
  if seen.contains b then kL bx k r seen else
  match bx b with
  |none=>kL bx k r seen
  |some cs=>kL bx k (AV.zd cs++r) (seen++[b])
structure Pat where
 id:Nat
 gen:List (Nat × AV)
 app:List (Nat × TypeId)
 bgen:List (Nat × AV)
 cap:List (Nat × Nat × TypeId):=[]
 yl:List AV:=[]
 un:List (List AV):=[]
structure Ctl where
 keep:List Nat
 loops:List Pat
 joins:List Pat
 fz:List (Nat × Nat)
abbrev ym:=AV->List (List AV)->Prop
abbrev iN (n:Int):AV:=.int .i64 n
abbrev SpecF:=FuncId->List AV->List (List AV)->AV->List (List AV)->Prop
abbrev FreshF:=FuncId->List AV->Nat->List AV->Prop
abbrev SeqF:=FuncId->List AV->List (List AV)->List (List AV)->Prop
structure Ways where
 fr:List FuncId
 alts:List (FuncId × List AV)
 ro:List FuncId:=[]
 il:List (FuncId × Ctl):=[]
 ow:List Nat:=[]
def Ways.zt (w:Ways) (f:FuncId):Option Ctl:=if w.ro.contains 995000000 && w.ro.contains (f+996000000) then none else w.il.lookup f
def Ways.inner (w:Ways):Ways:={ w with ro:=995000000::w.ro }
mutual
def exV:AV->(AV->Prop)->Prop
 |.int k _,K=>∃n:Int,K (.int k n)
 |.bool _,K=>∃b:Bool,K (.bool b)
 |.str _,K=>∃s:ByteArray,K (.str s)
 |.slc _ _,K=>∃es:List AV,K (.slc 3 es)
 |.iface t v,K=>exV v fun v=>K (.iface t v)
 |.agg cs,K=>exL cs fun cs=>K (.agg cs)
 |.tup cs,K=>exL cs fun cs=>K (.tup cs)
 |.fn f a c,K=>exL a fun a=>exL c fun c=>K (.fn f a c)
 |.eptr cs off,K=>exL cs fun cs=>K (.eptr cs off)
 |.undef,K=>∃v:AV,K v
 |v,K=>K v
def exL:List AV->(List AV->Prop)->Prop
 |[],K=>K []
 |x::r,K=>exV x fun v=>exL r fun l=>K (v::l)
end
def exX:AV->(AV->Prop)->Prop
 |.tup [.nilmap,.nilp],K=>∃es:List AV,K (.slc 2 es)
 |.tup [.nilmap,v],K=>K v
 |x,K=>exV x K
def exO:List AV->(AV->Prop)->Prop
 |[],_=>False
 |[x],K=>exX x K
 |x::r,K=>exX x K\/exO r K
def exE (P:Program) (w:Ways) (t:TypeId) (K:AV->Prop):Prop :=
 match w.alts.lookup (1000000+t) with
 |some l=>exO l K
 |none=>exT P t K
def Xq (P:Program) (w:Ways) (f:FuncId) (ts:List TypeId) (K:AV->Prop):Prop :=
 match w.alts.lookup f with
 |some l=>exO l K
 |none=>K1 P ts K
abbrev vH:=FuncId->List AV->St->(AV->St->Prop)->Prop
structure Specs where
 spec:SpecF
 fresh:FuncId->List AV->Nat->List AV->Prop
 frs:Ways
 inl:vH
 seq:FuncId->List AV->List (List AV)->List (List AV)->Prop
def zbS (P:Program) (t:TypeId):Bool :=
 match P.underlying t with
 |some (.pointer _) | some (.func ..) | some (.map ..)=>true
 |_=>false
def PH:List AV->List AV->List AV
 |.eptr c o::r,_::s=>.eptr c o::PH r s
 |_::r,y::s=>y::PH r s
 |_,s=>s
def T3 (P:Program) (x:Bx) (K:List AV->Prop):Prop :=
 if (qh x.cs).isSome then ∃es:List AV,K [.iface 1000000 (.slc 3 es)] else
 if zbS P x.ty then match x.cs with
  |[.ref b o]=>K [.ref b o]
  |[.map b]=>K [.map b]
  |[.fn f a c]=>K [.fn f a c]
  |_=>jG P 8 x.ty K
 else jG P 8 x.ty fun l=>K (PH x.cs l)
def wz (k:Nat->Bool) (P:Program):Nat->List Bx->(List (List AV)->Prop)->Prop
 |_,[],K=>K []
 |i,x::r,K=>if k i then wz k P (i+1) r fun l=>K (x.cs::l) else T3 P x fun cs=>wz k P (i+1) r fun l=>K (cs::l)
def wA (ro:Bool) (k:Nat->Bool) (P:Program) (bs:List Bx) (K:List (List AV)->Prop):Prop:=if ro then K (bs.map (·.cs)) else wz k P 0 bs K
def idx (b:Nat):List Nat->Option Nat
 |[]=>none
 |x::r=>if x=b then some 0 else (idx b r).map (·+1)
def yR (B:List Nat) (O:List (List AV)) (kill:List Nat) (bx:List (Option Bx)):List (Option Bx) :=
 WG bx fun b x=>if kill.contains b then none else
  match idx b B with
  |some i=>x.map fun y=>{ y with cs:=AV.zg (B[·]?) (O.getD i []) }
  |none=>x
def jh (bx:Nat->Option (List AV)):List (Nat × Nat × Nat × Bool)->Prop->Prop
 |[],K=>K
 |(b,m,esz,ag)::r,K=>match bx b with
  |some cs=>if ag then m<=cs.length/\jh bx r K else if esz=1 then (m<=cs.length/\yw cs=true)/\jh bx r K else False
  |none=>jh bx r K
def jM (P:Program) (S:Specs) (n:Nat) (f:FuncId) (args:List AV) (d:Option Nat) (Z:St) (K:St->Prop):Prop :=
 let sn:=Z.zh
 let B:=kL (fun b=>(Z.box b).map (AV.ze sn)) 30 (AV.zd (AV.ze sn args)) []
 match B.mapM (fun b=>Z.bx.getD b none),P.funcs[f]? with
 |some bs,some fn =>
  let asl:=AV.zb args++AV.zb (bs.flatMap (·.cs))
  let snaps:=asl.map (·.1)
  if bs.any (·.arr) || snaps.any (B.contains ·) || !decide B.Nodup || bs.any (fun x=>!xB x.cs (AV.ze sn x.cs)) then False else
  jh sn asl <|
  Xq P S.frs f fn.resultTypes.toList fun v=>wA (S.frs.ro.contains f) (fun i=>S.frs.ro.contains (f+1000000*(i+1))) P (bs.map fun x=>{ x with cs:=AV.za (AV.zg (idx · B) (AV.ze sn x.cs)) }) fun O' =>
   S.spec f (AV.za (AV.zg (idx · B) (AV.ze sn args))) (bs.map fun x=>AV.za (AV.zg (idx · B) (AV.ze sn x.cs))) v O' /\
   (if v.plain && O'.all AV.zq then K ({ Z with bx:=yR B O' [] Z.bx }.put d (v.zj (B[·]?)))
    else if snaps.all (n<=·) then K ({ Z with bx:=yR B O' snaps Z.bx }.put d (v.zj (B[·]?))) else False)
 |_,_=>False
def qu:AV->Bool
 |.tt | .ff | .bool _ | .lit .. | .int .. | .str _=>true
 |_=>false
def vO:List Bx->List (List AV)->Prop->Prop
 |x::r,cs::s,K=>if x.arr then cs.all qu=true/\vO r s K else vO r s K
 |_,_,K=>K
def kz (k:Nat->Bool) (P:Program):Nat->List Bx->(List (List AV)->Prop)->Prop
 |_,[],K=>K []
 |i,x::r,K=>if k i then kz k P (i+1) r fun l=>K (x.cs::l) else
  if x.arr then ∃zs:List Int,kz k P (i+1) r fun l=>K (zs.map (AV.int .i64)::l)
  else T3 P x fun cs=>kz k P (i+1) r fun l=>K (cs::l)
def u5 (B:List Nat) (O:List (List AV)) (bx:List (Option Bx)):List (Option Bx) :=
 WG bx fun b x=>match idx b B with
  |some i=>x.map fun y=>{ y with cs:=if y.arr then O.getD i [] else AV.zg (B[·]?) (O.getD i []) }
  |none=>x
def Se (B:List Nat) (x:Bx):List AV:=if x.arr then x.cs else AV.za (AV.zg (idx · B) x.cs)
def TT (P:Program) (S:Specs) (f:FuncId) (args:List AV) (d:Option Nat) (Z:St) (K:St->Prop):Prop :=
 let B:=kL Z.zX 30 (AV.zd args) []
 match B.mapM (fun b=>Z.bx.getD b none),P.funcs[f]? with
 |some bs,some fn =>
  if !decide B.Nodup then False else
  vO bs (bs.map (·.cs)) <|
  Xq P S.frs f fn.resultTypes.toList fun v=>kz (fun i=>S.frs.ro.contains (f+1000000*(i+1))) P 0 (bs.map fun x=>{ x with cs:=Se B x }) fun O' =>
   S.spec f (AV.za (AV.zg (idx · B) args)) (bs.map (Se B)) v O'/\vO bs O' (K ({ Z with bx:=u5 B O' Z.bx }.put d (v.zj (B[·]?))))
 |_,_=>False
def MH (P:Program) (f:FuncId):Option TypeId :=
 match P.funcs[f]? with
 |some fn=>match fn.resultTypes.toList with
  |[t]=>match P.underlying t with
   |some (.slice e)=>some e
   |_=>none
  |_=>none
 |none=>none
def JK (ts:List TypeId) (b len:Nat) (K:Nat->AV->Prop):Prop :=
 match ts with
 |[]=>K 0 (.tup [])
 |[_]=>∃m:Nat,m<=len/\K (m+1) (.aslc b 0 m 1 false)
 |_=>False
def Fi (P:Program) (f:FuncId):List TypeId:=match P.funcs[f]? with
 |some fn=>fn.resultTypes.toList
 |none=>[0,0]
def LK (P:Program) (S:Specs) (f:FuncId) (b len:Nat) (d:Option Nat) (Z:St) (K:St->Prop):Prop :=
 match Z.bx.getD b none with
 |some x=>if x.arr then JK (Fi P f) b len fun k v=>∃zs zs':List Int,(x.cs=zs.map (AV.int .i64)/\zs.length=len/\0<len/\zs'.length=len/\S.fresh f [.tup (zs.map (AV.int .i64))] k (zs'.map (AV.int .i64))) /\
   K ({ Z with bx:=Z.bx.set b (some { x with cs:=zs'.map (AV.int .i64) }) }.put d v) else False
 |none=>False
def Wq:List AV->Option (Nat × Nat)
 |[.aslc b 0 len 1 false]=>some (b,len)
 |_=>none
def PF:AV->Bool
 |.tup _=>true
 |_=>false
def PX:List AV->Bool
 |[]=>true
 |x::_=>!PF x
def AV.zx:AV->AV
 |.slc 0 []=>.slc 0 []
 |v=>v.norm
def T1 (P:Program) (S:Specs) (n:Nat) (f:FuncId) (b len:Nat) (d:Option Nat) (Z:St) (K:St->Prop):Prop :=
 match d,MH P f,Z.bx.getD b none with
 |some d,some e,some x =>
  if x.arr then ∃zs ws:List Int,(len<=x.cs.length/\yw x.cs=true/\x.cs.take len=zs.map (AV.int .i64)/\S.fresh f [.slc 3 (zs.map (AV.int .i64))] (P.cellsOf e) (ws.map (AV.int .i64))) /\
   qS n d ⟨e,true,ws.map (AV.int .i64)⟩ (.aslc (n+d) 0 ws.length (P.cellsOf e) (yp P e)) Z K
  else False
 |_,_,_=>False
def Xi (P:Program) (S:Specs) (n:Nat) (f:FuncId) (args:List AV) (d:Option Nat) (Z:St) (K:St->Prop):Prop :=
 match Wq args with
 |some (b,len)=>if S.frs.ro.contains (f+992000000) then T1 P S n f b len d Z K else LK P S f b len d Z K
 |none =>
 match d,MH P f with
 |some d,some e =>
  if AV.zi args && PX args then ∃es:List AV,S.fresh f (args.map AV.zx) (P.cellsOf e) es /\
   qS n d ⟨e,true,es.flatMap AV.cells⟩ (.aslc (n+d) 0 es.length (P.cellsOf e) (yp P e)) Z K
  else False
 |_,_=>False
def XS (P:Program) (f:FuncId):Option Bool :=
 match P.funcs[f]? with
 |some fn=>if fn.body.isNone && fn.origin == "" then (if fn.name == "math/bits.Add64" then some true else if fn.name == "math/bits.Sub64" then some false else none) else none
 |none=>none
def S6 (add:Bool) (x y c:Int):AV :=
 if add then .tup [.int .u64 (((x.toNat+y.toNat+c.toNat) % 18446744073709551616:Nat):Int),.int .u64 (((x.toNat+y.toNat+c.toNat) / 18446744073709551616:Nat):Int)]
 else .tup [.int .u64 (((x.toNat+18446744073709551616-y.toNat-c.toNat) % 18446744073709551616:Nat):Int),.int .u64 ((if x.toNat<y.toNat+c.toNat then 1 else 0:Nat):Int)]
def uy (P:Program) (S:Specs) (n:Nat) (f:FuncId) (args:List AV) (d:Option Nat) (Z:St) (K:St->Prop):Prop :=
 match XS P f with
 |some b=>match args with
  |[x,y,c]=>match x.zr,y.zr,c.zr with
   |some (.u64,x,_),some (.u64,y,_),some (.u64,c,_)=>(0<=c/\c<=1)/\K (Z.put d (S6 b x y c))
   |_,_,_=>False
  |_=>False
 |none=>Xi P S n f args d Z K
def qq (bx:List (Option Bx)) (b:Nat):Bool:=(bx.getD b none).isSome
def yE (Z:St):Bool:=(AV.zd Z.sl).all (qq Z.bx) && Z.bx.all fun
 |some x=>x.refs.all (qq Z.bx)
 |none=>true
def qL (n:Nat) (bx bx1:List (Option Bx)):Bool:=(List.range n).all (fun b=>qq bx b || !qq bx1 b) && bx1.all fun
 |some x=>x.refs.all (qq bx1)
 |none=>true
def Yp (P:Program) (S:Specs) (n:Nat) (f:FuncId) (args:List AV) (d:Option Nat) (Z:St) (K:St->Prop):Prop :=
 if (S.frs.zt f).isSome then S.inl f args Z (fun v τ=>if qL n Z.bx τ.bx && (AV.refs v).all (qq τ.bx) then K (τ.put d v) else False)
 else jM P S n f args d Z K
def Yq (P:Program) (S:Specs) (n:Nat) (f:FuncId) (args:List AV) (d:Option Nat) (Z:St) (K:St->Prop):Prop :=
 if S.frs.ro.contains (f+993000000) then TT P S f args d Z K else Yp P S n f args d Z K
def yA (k:Nat) (es:List AV):Prop:=∀v∈es,v.cells.length=k
def qB (Z:St) (k:Nat) (x:AV) (K:Nat->List AV->Prop):Prop :=
 match x with
 |.slc _ es=>yA k es/\K es.length (es.flatMap AV.cells)
 |.aslc b off len esz _=>match Z.zh b with
  |some cs=>(esz=k/\off+len*esz<=cs.length)/\K len ((cs.drop off).take (len*esz))
  |none=>False
 |_=>False
def Qx (P:Program) (t:TypeId) (name:String):Option FuncId :=
 match P.info? t,P.underlying t with
 |some i,some u=>match i.methods.find? (·.name == name) with
  |some m=>if m.path.isEmpty then match m.func,u with
    |some (f,true),.pointer _=>some f
    |some (_,false),.pointer _=>none
    |some (f,false),_=>some f
    |_,_=>none
   else none
  |none=>none
 |_,_=>none
def uh (P:Program) (t:TypeId) (Z:St) (a:AV) (K:AV->Prop):Prop :=
 match a with
 |.eptr cs off=>match qT P t cs off with | some v=>K v | none=>False
 |.ref b off=>match Z.bx.getD b none with
  |some x =>
   if x.mp.isSome then False else
   if x.arr then exT P t fun v=>(qT P t x.cs off).map AV.norm=some v/\K v
   else match qT P t x.cs off with | some v=>K v | none=>False
  |none=>False
 |_=>False
def vg (P:Program) (t:TypeId) (Z:St) (a v:AV) (K:St->Prop):Prop :=
 match a with
 |.ref b off=>match Z.bx.getD b none with
  |some x =>
   if v.cells.length=P.cellsOf t/\yw v.cells/\(P.underlying t).isSome then
    if x.mp.isSome then False else
    if x.arr then if v.tree then off+v.cells.length<=x.cs.length/\K { Z with bx:=Z.bx.set b (some { x with cs:=setCells x.cs off v.norm.cells }) } else False
    else if decide (off+v.cells.length<=x.cs.length) && (qh (setCells x.cs off v.cells)).isNone then K { Z with bx:=Z.bx.set b (some { x with cs:=setCells x.cs off v.cells }) } else False
   else False
  |none=>False
 |_=>False
def bnd (o:Option AV) (d:Int):Option (IntKind × Int × Bool) :=
 match o with
 |some v=>v.zr
 |none=>some (.i64,d,true)
def kN (P:Program) (t:TypeId) (_σ:St) (x:AV) (lo hi mx:Option AV) (K:AV->Prop):Prop :=
 match P.underlying t with
 |some (.slice e) =>
  if (P.underlying e).isNone then False else
  match x with
  |.slc _ es =>
   match bnd lo 0,bnd hi es.length,mx with
   |some (_,l,_),some (_,h,_),none =>
    match lo with
    |none=>(0<=h/\h<=es.length)/\K (.slc 3 (es.take h.toNat))
    |some _=>(0<=l/\l<=h/\h<=es.length/\yA (P.cellsOf e) es)/\K (.slc 3 ((es.drop l.toNat).take (h.toNat-l.toNat)))
   |some (_,_l,_),some (_,h,_),some m=>match m.zr,lo,hi with
    |some (_,m,_),none,some _=>(0<=h/\h=m/\h<=es.length)/\K (.slc 2 (es.take h.toNat))
    |_,_,_=>False
   |_,_,_=>False
  |.aslc b off len esz ag =>
   match bnd lo 0,bnd hi len,mx with
   |some (_,l,_),some (_,h,_),none=>(0<=l/\l<=h/\h<=len/\l<len/\esz=P.cellsOf e)/\K (.aslc b (off+l.toNat*esz) (h.toNat-l.toNat) esz ag)
   |some (_,_l,_),some (_,h,_),some m=>match m.zr,lo,hi with
    |some (_,m,_),none,some _=>(h=0/\m=0)/\K (.slc 2 [])
    |_,_,_=>False
   |_,_,_=>False
  |_=>False
 |some .string =>
  match x with
  |.str s =>
   match bnd lo 0,bnd hi s.size,mx with
   |some (_,l,_),some (_,h,_),none=>(0<=l/\l<=h/\h<=s.size)/\K (.str (s.extract l.toNat h.toNat))
   |_,_,_=>False
  |_=>False
 |_=>False
def Uy (P:Program) (w:Ways) (kn:Bool) (e:TypeId) (es:List AV) (j:Int) (K:AV->Prop):Prop :=
 if kn then (match es[j.toNat]? with
  |some v=>K v
  |none=>False) else exE P w e K
def q7 (P:Program) (w:Ways) (t:TypeId) (x i:AV) (K:AV->Prop):Prop :=
 match P.underlying t with
 |some (.array n e) =>
  if (P.underlying e).isNone then False else
  match x with
  |.ref b off=>Qp n i fun j=>K (.ref b (off+j*P.cellsOf e))
  |.eptr cs off=>Qp n i fun j=>K (.eptr cs (off+j*P.cellsOf e))
  |_=>False
 |some (.slice e) =>
  if (P.underlying e).isNone then False else
  match x,i.zr with
  |.slc m es,some (_,j,kn)=>Uy P w (m == 4 && kn) e es j fun v=>(0<=j/\v.cells.length=P.cellsOf e/\es[j.toNat]? = some v)/\K (.eptr v.cells 0)
  |.aslc b off len esz _,some (_,j,_)=>(0<=j/\j<len/\esz=P.cellsOf e)/\K (.ref b (off+j.toNat*esz))
  |_,_=>False
 |_=>False
def uH (P:Program) (t:TypeId) (x i:AV) (K:AV->Prop):Prop :=
 match P.underlying t with
 |some (.array n e) =>
  match x with
  |.agg cs=>Qp n i fun j=>match qT P e cs (j*P.cellsOf e) with | some v=>K v | none=>False
  |_=>False
 |some .string =>
  match x,i.zr with
  |.str s,some (_,j,_)=>∃c:UInt8,(0<=j/\s[j.toNat]? = some c)/\K (.int .u8 c.toNat)
  |_,_=>False
 |_=>False
def j7 (P:Program) (n:Nat) (ts:List TypeId) (s x:AV) (d:Nat) (Z:St) (K:St->Prop):Prop :=
 match ts with
 |[t,t2] =>
  match P.underlying t,P.underlying t2 with
  |some (.slice e),some (.slice _) =>
   if P.cellsOf e=0\/(P.underlying e).isNone\/((wN P e).map fun z=>z.cells.length)≠some (P.cellsOf e) then False else
   qB Z (P.cellsOf e) x fun nx cx =>
    match s with
    |.slc 0 []=>((nx+512)*(5*P.bytesOf e+1)<=2 ^ 50/\yw cx=true) /\
      qS n d ⟨e,true,cx⟩ (.aslc (n+d) 0 nx (P.cellsOf e) (yp P e)) Z K
    |.slc 2 es=>((es=[]\/0<nx)/\(es.length+nx+512)*(5*P.bytesOf e+1)<=2 ^ 50/\yA (P.cellsOf e) es/\yw cx=true/\yw (es.flatMap AV.cells)=true) /\
      qS n d ⟨e,true,es.flatMap AV.cells++cx⟩ (.aslc (n+d) 0 (es.length+nx) (P.cellsOf e) (yp P e)) Z K
    |.aslc b 0 len esz ag=>match Z.bx.getD b none with
     |some bx =>
      if bx.arr && decide (esz=P.cellsOf e) && decide (b≠n+d) then
       (bx.cs.length=len*esz/\(len+nx+512)*(5*P.bytesOf e+1)<=2 ^ 50/\yw cx=true/\yw bx.cs=true) /\
       qS n d ⟨e,true,bx.cs++cx⟩ (.aslc (n+d) 0 (len+nx) esz ag) { Z with bx:=Z.bx.set b none } K
      else False
     |none=>False
    |_=>False
  |_,_=>False
 |_=>False
def appendIn (P:Program) (ts:List TypeId) (s x:AV) (d:Nat) (Z:St) (K:St->Prop):Prop :=
 match ts with
 |[t,t2] =>
  match P.underlying t,P.underlying t2 with
  |some (.slice e),some (.slice _) =>
   if P.cellsOf e=0\/(P.underlying e).isNone then False else
   qB Z (P.cellsOf e) x fun nx cx =>
    match s with
    |.aslc b off len esz ag=>match Z.bx.getD b none with
     |some bx =>
      if bx.arr && decide (esz=P.cellsOf e) then
       (0<nx/\off+(len+nx)*esz<=bx.cs.length/\yw cx=true) /\
       K ({ Z with bx:=Z.bx.set b (some { bx with cs:=setCells bx.cs (off+len*esz) cx }) }.put (some d) (.aslc b off (len+nx) esz ag))
      else False
     |none=>False
    |_=>False
  |_,_=>False
 |_=>False
def WD (op:BinOp) (x y:AV) (K:AV->Prop):Prop :=
 match x.zr,y.zr with
 |some (k,a,l),some (k',b,l') =>
  match op with
  |.quo=>if k=k' then (if l' then (if b=0 then False else K (mkI k (k.wrap (a.tdiv b)) (l && l'))) else b≠0/\K (mkI k (k.wrap (a.tdiv b)) false)) else False
  |.rem=>if k=k' then (if l' then (if b=0 then False else K (mkI k (a.tmod b) (l && l'))) else b≠0/\K (mkI k (a.tmod b) false)) else False
  |.shl=>if l' then (if b<0 then False else K (mkI k (k.wrap (a*2 ^ (min b.toNat k.bits))) (l && l'))) else 0<=b/\K (mkI k (k.wrap (a*2 ^ (min b.toNat k.bits))) false)
  |.shr=>if l' then (if b<0 then False else K (mkI k (a.fdiv (2 ^ (min b.toNat k.bits))) (l && l'))) else 0<=b/\K (mkI k (a.fdiv (2 ^ (min b.toNat k.bits))) false)
  |_=>False
 |_,_=>False
section
variable (P:Program) (S:Specs) (n:Nat)
def X8 (P:Program) (op:BinOp) (t:TypeId) (x y:AV):Option (Bool × List AV) :=
 match P.underlying t,Ls op with
 |some (.slice _),some e=>match x,y with
  |.slc (m+1) es,.slc 0 []=>if m == 3 then none else some (e,es)
  |.slc 0 [],.slc (m+1) es=>if m == 3 then none else some (e,es)
  |_,_=>none
 |_,_=>none
def XD (w:Ways) (d:Option Nat):Option Nat:=match d with
 |some d=>if w.ow.contains d then some d else none
 |none=>none
def QH (o:Option Nat) (l c:Int):Nat:=match o with
 |some _=>c.toNat
 |none=>l.toNat
mutual
def kf:AV->Option Value
 |.int k n=>some (.int k n)
 |.bool b=>some (.bool b)
 |.str s=>some (.string s)
 |.agg cs=>(cvL cs).map fun l=>.agg l.toArray
 |_=>none
def cvL:List AV->Option (List Value)
 |[]=>some []
 |x::r=>match kf x,cvL r with
  |some v,some l=>some (v::l)
  |_,_=>none
end
def Ow (P:Program) (kt:TypeId) (c:Value):Prop :=
 match P.underlying kt with
 |some (.struct _) | some (.array _ _)=>P.keyTypeAt 2 kt=true/\P.tiled 2 kt=true/\∃l,keyOf P kt c=some l
 |some d=>MapKept.IsKey d c
 |none=>False
def xP (P:Program) (kt:TypeId) (k:AV):Prop:=∃c,kf k=some c/\Ow P kt c
def kX (P:Program) (kt:TypeId) (M:List AV):Prop:=∀x∈M,∃k v,x=.agg [k,v]/\xP P kt k
def ur (z:AV) (M:List AV) (k:AV) (f:Bool) (v:AV):Prop :=
 if f then ∃i:Nat,M[i]? = some (.agg [k,v])/\∀(j:Nat) (v':AV),M[j]? = some (.agg [k,v'])->j=i else (∀v',.agg [k,v']∉M)/\v=z
def AV.zK (v:AV):AV:=if v.tree then v else .undef
def x5 (M:List AV) (k v:AV) (M':List AV):Prop :=
 (∃(i:Nat) (v0:AV),M[i]? = some (.agg [k,v0])/\(∀(j:Nat) (v':AV),M[j]? = some (.agg [k,v'])->j=i)/\M'=M.set i (.agg [k,v]))\/((∀v',.agg [k,v']∉M)/\M'=M++[.agg [k,v]])
def SB (n d:Nat) (t:TypeId) (Z:St) (K:St->Prop):Prop :=
 if v7 (n+d) { sl:=Z.sl.set d .undef,bx:=Z.bx.set (n+d) none } && decide (d<Z.sl.length) && decide (n+d<Z.bx.length) then K { sl:=Z.sl.set d (.map (n+d)),bx:=Z.bx.set (n+d) (some ⟨t,false,[.iface 1000000 (.slc 3 [])]⟩) } else False
def wv (P:Program) (t:TypeId) (Z:St) (m k:AV) (ok:Bool) (K:AV->Prop):Prop :=
 match P.underlying t,m with
 |some (.map kt et),.map b=>match Z.bx.getD b none,wN P et with
  |some x,some z=>match x.mp with
   |some es=>kX P kt es/\xP P kt k.norm/\exT P et fun v=>∃f:Bool,ur z.norm es k.norm f v/\K (if ok then .tup [v,.bool f] else v)
   |none=>False
  |_,_=>False
 |_,_=>False
def LS (P:Program) (t:TypeId) (Z:St) (m k v:AV) (K:St->Prop):Prop :=
 match P.underlying t,m with
 |some (.map kt _),.map b=>match Z.bx.getD b none with
  |some x=>match x.mp with
   |some es=>kX P kt es/\xP P kt k.norm/\∃es':List AV,x5 es k.norm v.zK.norm es'/\K { Z with bx:=Z.bx.set b (some { x with cs:=[.iface 1000000 (.slc 3 es')] }) }
   |none=>False
  |none=>False
 |_,_=>False
def wP (s:ByteArray):List AV:=s.data.toList.map fun b=>.int .u8 b.toNat
def bytesOf (P:Program) (s d:TypeId) (v:AV):Option AV :=
 match P.underlying s,P.underlying d,v with
 |some .string,some (.slice e),.str b=>match P.underlying e with
  |some (.int .u8)=>some (.slc 3 (wP b))
  |_=>none
 |_,_,_=>none
def aop (o:Oper) (Z:St) (K:St->Prop):Prop :=
 match o.op with
 |.alloc t=>match o.dst,wN P t with
  |some d,some z=>qS n d ⟨t,false,z.cells⟩ (.ref (n+d) 0) Z K
  |_,_=>False
 |.box t x=>match o.dst with
  |some d=>if (ev Z x).zl then qS n d ⟨t,false,(ev Z x).cells⟩ (.ref (n+d) 0) Z K else False
  |none=>False
 |.buildSlice t len ps =>
  match P.underlying t with
  |some (.slice e) =>
   match wN P e with
   |some z =>
    if len*P.cellsOf e<=2 ^ 20/\0<P.cellsOf e/\z.cells.length=P.cellsOf e/\(yp P e=false->P.cellsOf e=1)/\(P.underlying e).isSome then
     match uF (fun i=>some (i*P.cellsOf e,P.cellsOf e)) ((List.replicate len z.cells).flatten) (ps.toList.map fun p=>(p.1,ev Z p.2)) with
     |some out=>if AV.zi out && yw out then (match XD S.frs o.dst with
      |some d=>qS n d ⟨e,true,AV.za out⟩ (.aslc (n+d) 0 len (P.cellsOf e) (yp P e)) Z K
      |none=>K (Z.put o.dst (.slc 2 (chunks (P.cellsOf e) (yp P e) len (AV.za out))))) else False
     |none=>False
    else False
   |none=>False
  |_=>False
 |.makeMap t none=>match o.dst,P.underlying t with
  |some d,some (.map _ _)=>SB n d t Z K
  |_,_=>False
 |.lookup t x k ok=>wv P t Z (ev Z x) (ev Z k) ok fun v=>K (Z.put o.dst v)
 |.mapUpdate t x k v=>LS P t Z (ev Z x) (ev Z k) (ev Z v) fun Z=>K (Z.put o.dst (.tup []))
 |.load t x=>uh P t Z (ev Z x) fun v=>K (Z.put o.dst v)
 |.store t a x=>vg P t Z (ev Z a) (ev Z x) fun Z=>K (Z.put o.dst (.tup []))
 |.indexAddr t x i=>q7 P S.frs t (ev Z x) (ev Z i) fun v=>K (Z.put o.dst v)
 |.index t x i=>uH P t (ev Z x) (ev Z i) fun v=>K (Z.put o.dst v)
 |.slice t x lo hi mx=>kN P t Z (ev Z x) (lo.map (ev Z)) (hi.map (ev Z)) (mx.map (ev Z)) fun v=>K (Z.put o.dst v)
 |.convert s d x=>match bytesOf P s d (ev Z x) with
  |some v=>K (Z.put o.dst v)
  |none=>match jz P (ev Z) (.convert s d x) with
   |some v=>K (Z.put o.dst v)
   |none=>False
 |.makeSlice t l c =>
  match P.underlying t,(ev Z l).zr,(ev Z c).zr,o.dst with
  |some (.slice e),some (_,l,_),some (_,c,_),some d=>match wN P e with
   |some z=>if 0<P.cellsOf e/\z.cells.length=P.cellsOf e/\z.tree=true then (0<=l/\l<=c/\(c+1)*(P.bytesOf e+1)<=2 ^ 48) /\
     qS n d ⟨e,true,(List.replicate (QH (XD S.frs (some d)) l c) z.norm.cells).flatten⟩ (.aslc (n+d) 0 l.toNat (P.cellsOf e) (yp P e)) Z K else False
   |none=>False
  |_,_,_,_=>False
 |.binOp .quo _ x y _=>WD .quo (ev Z x) (ev Z y) fun v=>K (Z.put o.dst v)
 |.binOp .rem _ x y _=>WD .rem (ev Z x) (ev Z y) fun v=>K (Z.put o.dst v)
 |.binOp .shl _ x y _=>WD .shl (ev Z x) (ev Z y) fun v=>K (Z.put o.dst v)
 |.binOp .shr _ x y _=>WD .shr (ev Z x) (ev Z y) fun v=>K (Z.put o.dst v)
 |.binOp op t x y yt=>match X8 P op t (ev Z x) (ev Z y) with
  |some (e,es)=>∀b:Bool,(es≠[]->b=!e)->K (Z.put o.dst (.bool b))
  |none=>match jz P (ev Z) (.binOp op t x y yt) with
   |some v=>K (Z.put o.dst v)
   |none=>False
 |.call c =>
  match c.callee with
  |.value (.func f)=>if S.frs.fr.contains f then uy P S n f (c.args.toList.map (ev Z)) o.dst Z K else Yp P S n f (c.args.toList.map (ev Z)) o.dst Z K
  |.value f=>match ev Z f with
   |.fn g first caps=>Yq P S n g (first++(c.args.toList.map (ev Z)++caps)) o.dst Z K
   |_=>False
  |.invoke r name=>match ev Z r with
   |.iface t v=>match Qx P t name with
    |some g=>Yp P S n g (v::c.args.toList.map (ev Z)) o.dst Z K
    |none=>False
   |_=>False
  |.builtin .append=>match c.args.toList.map (ev Z),o.dst with
   |[s,x],some d=>if (XD S.frs (some d)).isSome then appendIn P c.argTypes.toList s x d Z K else j7 P n c.argTypes.toList s x d Z K
   |_,_=>False
  |.builtin _=>match jz P (ev Z) (.call c) with
   |some v=>K (Z.put o.dst v)
   |none=>False
 |op=>match jz P (ev Z) op with
  |some v=>K (Z.put o.dst v)
  |none=>False
def qf (ops:List Oper):List (Option Nat):=ops.map (·.dst)
def xv (dsts:List (Option Nat)):List Oper->St->(St->Prop)->Prop
 |[],Z,K=>K Z
 |o::r,Z,K =>
  match o.guard with
  |none=>aop P S n o Z fun Z=>xv dsts r Z K
  |some (j,want) =>
   match dsts[j]? with
   |some (some d) =>
    match Z.sl.getD d .undef with
    |.tt=>if want then aop P S n o Z fun Z=>xv dsts r Z K else xv dsts r (Z.put o.dst (.tup [])) K
    |.ff=>if want then xv dsts r (Z.put o.dst (.tup [])) K else aop P S n o Z fun Z=>xv dsts r Z K
    |.bool b =>
     if want then br b (aop P S n o (Z.put (some d) .tt) fun Z=>xv dsts r Z K) (xv dsts r ((Z.put (some d) .ff).put o.dst (.tup [])) K)
     else br b (xv dsts r ((Z.put (some d) .tt).put o.dst (.tup [])) K) (aop P S n o (Z.put (some d) .ff) fun Z=>xv dsts r Z K)
    |.tup []=>xv dsts r (Z.put o.dst (.tup [])) K
    |_=>False
   |_=>False
def Yo:AV->List Nat
 |.ref b _=>[b]
 |_=>[]
def Fb:AV->List Nat
 |.map b=>[b]
 |_=>[]
def Y9 (Z:St) (c:Call):Option (List AV) :=
 match c.callee with
 |.value (.func _)=>some (c.args.toList.map (ev Z))
 |.value f=>match ev Z f with
  |.fn _ first caps=>some (first++(c.args.toList.map (ev Z)++caps))
  |_=>none
 |.invoke r _=>match ev Z r with
  |.iface _ v=>some (v::c.args.toList.map (ev Z))
  |_=>none
 |.builtin _=>none
def Il (Z:St) (c:Call):List Nat :=
 match Y9 Z c with
 |some l=>(AV.zb l).map (·.1)
 |none=>[]
mutual
def roV (B:List Nat):AV->Bool
 |.lit .. | .tt | .ff | .aslc ..=>false
 |.slc m _=>m == 3
 |.ref b _ | .map b=>B.contains b
 |.fn _ a b=>roL B a && roL B b
 |.iface _ v=>roV B v
 |.agg cs | .tup cs=>roL B cs
 |.eptr cs _=>(AV.zb cs).isEmpty && (AV.zd cs).all fun b=>B.contains b
 |_=>true
def roL (B:List Nat):List AV->Bool
 |[]=>true
 |x::r=>roV B x && roL B r
end
def yG (Z:St) (l:List AV):List Nat:=kL (fun b=>(Z.box b).map (AV.ze Z.zh)) 30 (AV.zd (AV.ze Z.zh l)) []
def Wf (Z:St) (l:List AV) (B:List Nat):Bool:=(AV.zb l).isEmpty && (AV.zd l).all (fun b=>B.contains b) && decide B.Nodup && B.all fun b=>match Z.bx.getD b none with
 |some x=>!x.arr && roL B x.cs
 |none=>false
def WO (Z:St) (c:Call):Option FuncId :=
 match c.callee with
 |.value (.func f)=>some f
 |.value f=>match ev Z f with
  |.fn g _ _=>some g
  |_=>none
 |_=>none
def Lv (w:Ways) (Z:St) (c:Call):Bool :=
 match WO Z c with
 |some f=>w.ro.contains f
 |none=>false
def Hn (w:Ways) (Z:St) (c:Call):Bool :=
 match WO Z c with
 |some f=>w.ro.contains (f+999000000)
 |none=>false
def Tp (Z:St) (l:List AV) (B:List Nat):Bool:=(AV.zb l).isEmpty && (AV.zd l).all (fun b=>B.contains b) && decide B.Nodup && B.all fun b=>match Z.bx.getD b none with
 |some x=>!x.arr && (AV.zb x.cs).isEmpty && (AV.zd x.cs).all (fun b=>B.contains b)
 |none=>false
def wrB (w:Ways) (Z:St) (c:Call):List Nat:=if Hn w Z c then (match Y9 Z c with
 |some l=>yG Z l
 |none=>[]) else []
def Lt (frs:Ways) (c:Call):Bool :=
 match c.callee with
 |.value (.func f)=>frs.fr.contains f
 |_=>false
def Lu (w:Ways) (Z:St) (c:Call):Bool :=
 match c.callee with
 |.value (.func f)=>(w.zt f).isSome
 |.value f=>match ev Z f with
  |.fn g _ _=>(w.zt g).isSome || w.ro.contains (g+993000000)
  |_=>false
 |.invoke _ _=>!w.il.isEmpty
 |_=>false
def wU:AV->List Nat
 |.aslc b ..=>[b]
 |_=>[]
def II (c:Call):FuncId:=match c.callee with
 |.value (.func f)=>f
 |_=>0
def frR (P:Program) (c:Call) (args:List AV) (d:Option Nat):Option (List Nat × List Nat) :=
 if (Wq args).isSome then none else
 match XS P (II c) with
 |some _=>some ([],[])
 |none=>match d with
  |some d=>some ([],[d])
  |none=>none
def frW (n:Nat) (frs:Ways) (c:Call) (d:Option Nat):List Nat:=if Lt frs c then (match d with
 |some d=>[n+d]
 |none=>[]) else []
def IC (args:List AV) (d:Option Nat):Option (List Nat × List Nat) :=
 match args,d with
 |[s,x],some d=>some (wU s++wU x,[d])
 |_,_=>none
def Df (n:Nat) (args:List AV) (d:Option Nat):List Nat :=
 match args,d with
 |[s,_],some d=>wU s++[n+d]
 |_,_=>[]
def fpR (frs:Ways) (o:Oper) (Z:St):Option (List Nat × List Nat) :=
 match o.op with
 |.alloc _=>match o.dst with
  |some d=>some ([],[d])
  |none=>none
 |.load _ x=>some (Yo (ev Z x),[])
 |.store _ a _=>some (Yo (ev Z a),[])
 |.lookup _ x _ _=>some (Fb (ev Z x),[])
 |.slice _ x _ _ _=>if frs.ro.contains 994000000 then (match ev Z x with
  |.slc ..=>some ([],[])
  |_=>none) else none
 |.box .. | .makeSlice .. | .makeMap .. | .mapUpdate ..=>none
 |.buildSlice ..=>if (XD frs o.dst).isSome then none else some ([],[])
 |.binOp op t x y _=>if (X8 P op t (ev Z x) (ev Z y)).isSome then none else some ([],[])
 |.call c=>if Lt frs c then frR P c (c.args.toList.map (ev Z)) o.dst else if Lu frs Z c then none else match c.callee with
  |.builtin .append=>if (XD frs o.dst).isSome then none else IC (c.args.toList.map (ev Z)) o.dst
  |.builtin _=>some ([],[])
  |_=>match Y9 Z c with
   |some l=>if (AV.zd (AV.ze Z.zh l)).isEmpty then some ((AV.zb l).map (·.1),[]) else if Lv frs Z c && Wf Z l (yG Z l) then some (yG Z l,[]) else if Hn frs Z c && Tp Z l (yG Z l) then some (yG Z l,[]) else none
   |none=>some ([],[])
 |_=>some ([],[])
def fpW (frs:Ways) (o:Oper) (Z Z':St):List Nat :=
 match o.op with
 |.alloc _=>match o.dst with
  |some d=>[n+d]
  |none=>[]
 |.store _ a _=>Yo (ev Z a)
 |.call c=>match c.callee with
  |.builtin .append=>Df n (c.args.toList.map (ev Z)) o.dst
  |_=>((Il Z c).filter fun b=>(Z'.bx.getD b none).isNone)++(wrB frs Z c++frW n frs c o.dst)
 |_=>[]
def fpF (d:Option Nat) (W:List Nat) (Z':St):List Nat :=
 (match d with
  |some d=>(Z'.sl.getD d .undef).refs
  |none=>[])++W.flatMap fun b=>match Z'.bx.getD b none with
  |some x=>x.refs
  |none=>[]
structure Fp where
 i:Nat
 o:Oper
 R:List Nat
 W:List Nat
 F:List Nat
 rf:List Nat
def XO (a b:List Nat):Bool:=a.all fun x=>!b.contains x
def QR (ops:Array Oper) (a:Nat):Nat->Nat->Bool
 |0,_=>false
 |k+1,b=>match ops[b]? with
  |some o=>o.after.toList.any fun e=>Region.binds .any e && (e.on == a || QR ops a k e.on)
  |none=>false
def Fp.fits (ops:Array Oper) (a b:Fp):Bool :=
 a.o.after.toList.all (fun e=>!(Region.binds .any e && e.on == b.i)) && XO (b.F.map (n+·)) a.rf && (b.o.after.toList.any (fun e=>Region.binds .any e && (e.on == a.i || QR ops a.i 2 e.on)) ||
  (a.o.apart ops b.o && XO a.W b.R && XO b.W a.R && XO a.W b.W && XO (a.F.map (n+·)) b.rf))
def vR (d:Nat) (Z:St):Bool:=v7 (n+d) { sl:=Z.sl.set d .undef,bx:=Z.bx.set (n+d) none }
def split (g:Bool) (d:Option Nat) (Z:St) (K:St->Prop):Prop :=
 match g,d with
 |true,some d=>match Z.sl.getD d .undef with
  |.bool b=>br b (K (Z.put (some d) .tt)) (K (Z.put (some d) .ff))
  |_=>K Z
 |_,_=>K Z
def gop (dsts:List (Option Nat)) (g:Bool) (o:Oper) (Z:St) (K:St->Prop):Prop :=
 match o.guard with
 |none=>aop P S n o Z fun Z=>split g o.dst Z K
 |some (j,want) =>
  match dsts[j]? with
  |some (some d) =>
   match Z.sl.getD d .undef with
   |.tt=>if want then aop P S n o Z fun Z=>split g o.dst Z K else K (Z.put o.dst (.tup []))
   |.ff=>if want then K (Z.put o.dst (.tup [])) else aop P S n o Z fun Z=>split g o.dst Z K
   |.tup []=>K (Z.put o.dst (.tup []))
   |_=>False
  |_=>False
def Qq (ops:Array Oper) (i:Nat):Bool:=ops.toList.any fun o=>match o.guard with
 |some (j,_)=>j == i
 |none=>false
def kB:List Nat->(List Nat->Prop)->Prop
 |[],k=>k []
 |0::r,k=>kB r fun r=>k (0::r)
 |(x+1)::r,k=>kB r fun r=>k ((x+1)::r)
def Qz (w:Ways) (o:Oper):Bool:=match o.op with
 |.slice ..=>!w.ro.contains 994000000
 |.box .. | .makeSlice .. | .makeMap .. | .mapUpdate ..=>true
 |.store ..=>w.ro.contains 989000000
 |.buildSlice ..=>(XD w o.dst).isSome
 |.call c=>match c.callee with
  |.value (.func f)=>(w.zt f).isSome || w.ro.contains (f+991000000)
  |.value _=>w.ro.contains 997000000
  |_=>false
 |_=>false
def zam (w:Ways) (ops:Array Oper):Nat->List Nat->List Nat->List Nat
 |0,_,done=>done.reverse
 |k+1,rem,done=>match (rem.find? (fun i=>match ops[i]? with
   |some o=>!Qz w o && o.after.toList.all fun e=>!Region.binds .any e || done.contains e.on
   |none=>false)).or (rem.find? (fun i=>match ops[i]? with
   |some o=>o.after.toList.all fun e=>!Region.binds .any e || done.contains e.on
   |none=>false)) with
  |some i=>zam w ops k (rem.filter fun j=>!(j == i)) (i::done)
  |none=>done.reverse
def Tt (ops:Array Oper):List Nat->List Fp->St->(St->Prop)->Prop
 |[],_,Z,K=>K Z
 |i::r,past,Z,K =>
  match ops[i]? with
  |none=>False
  |some o=>match fpR P S.frs o Z with
   |none=>False
   |some (R,F) =>
    if o.after.toList.all (fun e=>decide (e.on<ops.size) && !(e.on == i)) then
     gop P S n (qf ops.toList) (Qq ops i) o Z fun Z' =>
      kB R fun R=>kB (fpW n S.frs o Z Z') fun W=>kB F fun F=>kB (fpF o.dst W Z') fun rf =>
       if past.all (fun q=>q.fits n ops ⟨i,o,R,W,F,rf⟩) then Tt ops r (⟨i,o,R,W,F,rf⟩::past) Z' K else False
    else False
def XV (ops:Array Oper):List Nat->List Nat->Bool
 |[],_=>true
 |x::r,seen=>(seen.any fun y=>match ops[y]? with
   |some o=>o.after.toList.any fun e=>Region.binds .any e && e.on == x
   |none=>false) && XV ops r (x::seen)
def Wy (ops:Array Oper):List Nat->List Nat->Bool
 |[],_=>true
 |l::r,seen=>(match ops[l]? with
  |some o=>o.after.toList.all fun e=>decide (e.on<ops.size) && seen.contains e.on
  |none=>false) && XV ops seen [l] && Wy ops r (l::seen)
def wX (w:Ways) (ops:Array Oper):List Nat->List Nat × List Nat
 |[]=>([],[])
 |i::r=>if (match ops[i]? with
   |some o=>Qz w o
   |none=>false) then ([],i::r) else (i::(wX w ops r).1,(wX w ops r).2)
def WS (ops:Array Oper) (pre fin:List Nat):Bool:=Wy ops fin pre.reverse && pre.all fun x=>match ops[x]? with
 |some o=>o.after.toList.all fun e=>!(Region.binds .any e && fin.contains e.on)
 |none=>false
def kg (esz:Nat) (ag:Bool) (es:List AV):Prop:=∀v∈es,if ag then ∃c,v=.agg c/\c.length=esz else v.cells=[v]
def U8 (nm:Bool) (esz:Nat) (ag:Bool) (len:Nat) (cs:List AV) (K:List AV->Prop):Prop :=
 if nm then ∃es:List AV,(es.length=len/\es.flatMap AV.cells=cs/\kg esz ag es)/\K es else K (chunks esz ag len cs)
def wq (nm:Bool) (n t:Nat) (Z:St) (K:St->Prop):Prop :=
 match Z.sl.getD t .undef with
 |.aslc b off len esz ag=>match Z.zh b with
  |some cs=>if n<=b then jh Z.zh [(b,off+len*esz,esz,ag)] (U8 nm esz ag len (cs.drop off) fun es=>K ⟨Z.sl.set t (.slc 3 es),Z.bx.set b none⟩) else False
  |none=>False
 |.ref b off=>match Z.bx.getD b none with
  |some x=>if !x.arr && (qh x.cs).isNone && (AV.zb x.cs).isEmpty && decide (n<=b) then K ⟨Z.sl.set t (.eptr x.cs off),Z.bx.set b none⟩ else False
  |none=>False
 |_=>K Z
def Yh (ops:List Oper) (o:Oper) (Z:St) (K:St->Prop):Prop:=match o.op with
 |.store _ x (.tmp t)=>match ev Z x with
  |.ref b _=>match Z.bx.getD b none with
   |some y=>if y.arr && (qf ops).contains (some t) then wq false n t Z K else K Z
   |none=>K Z
  |_=>K Z
 |_=>K Z
def NJ (ops:Array Oper):List Nat->(St->Prop)->St->Prop
 |[],K,Z=>K Z
 |l::r,K,Z=>match ops[l]? with
  |some o=>Yh n ops.toList o Z fun Z=>gop P S n (qf ops.toList) (Qq ops l) o Z (NJ ops r K)
  |none=>False
def T2 (ops:Array Oper) (ord:List Nat) (Z:St) (K:St->Prop):Prop :=
 if (wX S.frs ops ord).2.isEmpty then Tt P S n ops ord [] Z K else
 kB (wX S.frs ops ord).1 fun pre=>kB (wX S.frs ops ord).2 fun fin =>
  if WS ops pre fin then Tt P S n ops pre [] Z (NJ P S n ops fin K) else False
structure uq where
 sl:List Nat
 es:List (Bool × AV)
def uY (P:Program) (t:TypeId):Bool:=match P.underlying t with
 |some (.map k _)=>match P.underlying k with
  |some .bool=>true
  |_=>false
 |_=>false
def Jz (P:Program) (ops:List Oper):Bool:=ops.any fun o=>match o.op with
 |.makeMap t _=>uY P t
 |_=>false
def SA (M:uq):Option Nat->Bool
 |some d=>!M.sl.contains d
 |none=>true
def Wv (o:Oper) (M:uq) (Z:St) (K:uq->St->Prop):Prop :=
 if SA M o.dst then match jz P (ev Z) o.op with
  |some v=>K M (Z.put o.dst v)
  |none=>False
 else False
def U6 (M:uq) (d:Option Nat) (b:Bool) (Z:St) (K:uq->St->Prop):Prop :=
 match M.es.lookup b with
 |some v=>K M (Z.put d v)
 |none=>False
def LH (o:Oper) (M:uq) (Z:St) (K:uq->St->Prop):Prop :=
 match o.op with
 |.load t x=>if SA M o.dst then uh P t Z (ev Z x) fun v=>K M (Z.put o.dst v) else False
 |.insert t x k v=>match x,(ev Z k).zU with
  |.tmp m,some b=>if M.sl.contains m && uY P t && (M.es.lookup b).isNone && SA M o.dst then K ⟨M.sl,M.es++[(b,ev Z v)]⟩ (Z.put o.dst (.tup [])) else False
  |_,_=>False
 |.lookup t x k ok=>match x,(ev Z k).zU with
  |.tmp m,some b=>if !ok && M.sl.contains m && uY P t && SA M o.dst then br b (U6 M o.dst true Z K) (U6 M o.dst false Z K) else False
  |_,_=>False
 |.move x=>match x,o.dst with
  |.tmp m,some d=>if M.sl.contains m then (if decide (d<Z.sl.length) then K ⟨d::M.sl,M.es⟩ (Z.put (some d) .undef) else False) else Wv P o M Z K
  |_,_=>Wv P o M Z K
 |_=>Wv P o M Z K
def uv:List Oper->Option uq->St->(St->Prop)->Prop
 |[],_,Z,K=>K Z
 |o::r,M,Z,K =>
  if o.guard.isSome then False else
  match M with
  |none=>match o.op,o.dst with
   |.makeMap t none,some d=>if uY P t && decide (d<Z.sl.length) then uv r (some ⟨[d],[]⟩) (Z.put (some d) .undef) K else False
   |.makeMap _ _,_=>False
   |_,_=>aop P S n o Z fun Z=>uv r none Z K
  |some M=>LH P o M Z fun M Z=>uv r (some M) Z K
def uu (w:Ways) (ops:Array Oper):List Nat:=ops.toList.filterMap fun o=>match o.op with
 |.alloc _=>o.dst
 |.call c=>match c.callee with
  |.builtin .append=>o.dst
  |_=>if Lt w c then o.dst else none
 |_=>none
def SJ (ops:Array Oper) (ord:List Nat):Bool:=(List.range ops.size).all (fun i=>ord.contains i) && decide ord.Nodup && ord.length == ops.size && ord.all (fun i=>decide (i<ops.size))
def clean (keep:List Nat) (Z:St):St:={ Z with sl:=WG Z.sl fun i v=>if keep.contains i then v else .undef }
mutual
def va:AV->(AV->Prop)->Prop
 |.undef,k=>k .undef
 |.tt,k=>k .tt
 |.ff,k=>k .ff
 |.bool b,k=>k (.bool b)
 |.lit t n,k=>k (.lit t n)
 |.int t n,k=>k (.int t n)
 |.str s,k=>k (.str s)
 |.nilp,k=>k .nilp
 |.eptr cs off,k=>wo cs fun cs=>k (.eptr cs off)
 |.ref b off,k=>k (.ref b off)
 |.slc m es,k=>k (.slc m es)
 |.aslc b off len esz ag,k=>k (.aslc b off len esz ag)
 |.fn f a c,k=>wo a fun a=>wo c fun c=>k (.fn f a c)
 |.nilfn,k=>k .nilfn
 |.iface t v,k=>va v fun v=>k (.iface t v)
 |.nilif,k=>k .nilif
 |.agg cs,k=>wo cs fun cs=>k (.agg cs)
 |.tup vs,k=>wo vs fun vs=>k (.tup vs)
 |.map b,k=>k (.map b)
 |.nilmap,k=>k .nilmap
 |.yld l,k=>k (.yld l)
def wo:List AV->(List AV->Prop)->Prop
 |[],k=>k []
 |x::r,k=>va x fun x=>wo r fun r=>k (x::r)
end
def Xt (keep:List Nat):Nat->List AV->(List AV->Prop)->Prop
 |_,[],k=>k []
 |i,x::r,k=>if keep.contains i then va x fun x=>Xt keep (i+1) r fun r=>k (x::r) else Xt keep (i+1) r fun r=>k (.undef::r)
def vP:List (Option Bx)->(List (Option Bx)->Prop)->Prop
 |[],k=>k []
 |none::r,k=>vP r fun r=>k (none::r)
 |some ⟨t,true,cs⟩::r,k=>vP r fun r=>k (some ⟨t,true,cs⟩::r)
 |some ⟨t,false,cs⟩::r,k=>wo cs fun cs=>vP r fun r=>k (some ⟨t,false,cs⟩::r)
def YG (keep:List Nat) (Z:St) (K:St->Prop):Prop:=Xt keep 0 Z.sl fun sl=>vP Z.bx fun bx=>K ⟨sl,bx⟩
inductive Ex where
 |normal
 |exit (id:Nat)
 |ret
def SM (fr:Nat->Prop) (v v':AV):Prop:=v'=.undef\/v'=v\/v'=v.norm\/((v=.slc 0 []\/v=.slc 2 [])/\∃b esz ag,v'=.aslc b 0 0 esz ag/\fr b)
abbrev LN (h:Nat->Option Nat) (n b:Nat):Prop:=n<=b/\∀c,h c≠some b
def ND (v v':AV):Prop:=v'=.undef\/v'=v\/v'=v.norm
structure x6 (n:Nat) (Z Z':St):Prop where
 ex:∃h:Nat->Option Nat,(∀b i,h b=some i->i<n->b=i)/\True/\(∀b c i,h b=some i->h c=some i->b=c) /\
  (∀t,SM (LN h n) ((Z.sl.getD t .undef).zj h) (Z'.sl.getD t .undef)) /\
  (∀b' x',Z'.bx.getD b' none=some x'->(∃b x,h b=some b'/\Z.bx.getD b none=some x/\x'.arr=x.arr/\x'.cs.length=x.cs.length/\qh x'.cs=qh x.cs /\
   ∀j,if x.arr then ND (x.cs.getD j .undef) (x'.cs.getD j .undef) else SM (LN h n) ((x.cs.getD j .undef).zj h) (x'.cs.getD j .undef))\/(x'.cs=[]/\n<=b'/\∀b,h b≠some b'))
 len:Z'.sl.length=Z.sl.length
def Sl (n:Nat) (f:St->(Ex->St->Prop)->Prop):Nat->St->(Ex->St->Prop)->Prop
 |0,_,_=>False
 |m+1,Z,K=>f Z fun e Z=>match e with
  |.normal=>∃Z',x6 n Z Z'/\Sl n f m Z' K
  |e=>K e Z
def PG (f:St->(Ex->St->Prop)->Prop):Nat->St->(Ex->St->Prop)->Prop
 |0,_,_=>False
 |m+1,Z,K=>f Z fun e Z=>match e with
  |.normal=>PG f m Z K
  |e=>K e Z
def jT:Code->Option Nat
 |.region id _ _=>some id
 |.seq a b=>match jT a with
  |some i=>some i
  |none=>jT b
 |.cond _ a b=>match jT a with
  |some i=>some i
  |none=>jT b
 |.block _ b | .loop b | .scope b=>jT b
 |_=>none
def uB:Code->List Nat
 |.region _ ops _=>ops.toList.filterMap (·.dst)
 |.seq a b | .cond _ a b=>uB a++uB b
 |.block _ b | .loop b | .scope b=>uB b
 |.rangeFunc g ps a b=>(match g with | .tmp t=>[t] | _=>[])++(ps.toList++(uB a++uB b))
 |_=>[]
def Ctl.dsts (ctl:Ctl) (c:Code):List Nat:=uB c++(ctl.fz.filter fun q=>decide (q.2<1000000000)).map (fun q=>q.2 % 1000000)
def Ctl.zH (ctl:Ctl) (id:Nat):List Nat:=(ctl.fz.filter fun q=>q.1 == id).map (·.2)
def Tj (k t:Nat) (Z:St) (K:St->Prop):Prop :=
 match Z.sl.getD t .undef with
 |.int kd j=>(0<=j/\j<k)/\QK j (fun i=>K { Z with sl:=Z.sl.set t (.lit kd i) }) k
 |_=>K Z
def vQ (nm:Bool) (n off c:Nat) (Z:St) (K:St->Prop):Prop :=
 match Z.bx.getD c none with
 |some x=>if x.arr then K Z else match x.cs.getD off .undef with
  |.aslc b o len esz ag=>match Z.zh b with
   |some cs=>if (qh x.cs).isNone && decide (n<=b) && !(b == c) then jh Z.zh [(b,o+len*esz,esz,ag)] (U8 nm esz ag len (cs.drop o) fun es=>K ⟨Z.sl,(Z.bx.set b none).set c (some { x with cs:=x.cs.set off (.slc 3 es) })⟩) else False
   |none=>False
  |_=>K Z
 |none=>K Z
def TZ (off c:Nat) (Z:St) (K:St->Prop):Prop :=
 match Z.bx.getD c none with
 |some x=>if x.arr || (qh x.cs).isSome then K Z else match x.cs.getD off .undef with
  |.slc (_+1) es=>∃(v:AV) (r:List AV),es=v::r/\K ⟨Z.sl,Z.bx.set c (some { x with cs:=x.cs.set off (.slc 4 (v::r)) })⟩
  |.aslc b o len esz ag=>∃k:Nat,len=k+1/\K ⟨Z.sl,Z.bx.set c (some { x with cs:=x.cs.set off (.aslc b o (k+1) esz ag) })⟩
  |_=>K Z
 |none=>K Z
def Gj (n t:Nat) (Z:St):Nat:=if t<3000000000 then n+t % 1000000 else (kL Z.zX 30 (AV.refs (Z.sl.getD (t % 1000000) .undef)) []).getD (t / 1000000000-3) 0
def Fe (t:Nat) (Z:St) (K:St->Prop):Prop :=
 (Z.sl.getD t .undef=.slc 0 []/\K { Z with sl:=Z.sl.set t (.slc 0 []) })\/∃(v:AV) (r:List AV),Z.sl.getD t .undef=.slc 3 (v::r)/\K { Z with sl:=Z.sl.set t (.slc 3 (v::r)) }
def qp (n:Nat):List Nat->St->(St->Prop)->Prop
 |[],Z,K=>K Z
 |t::r,Z,K=>if 90000000000<=t then Fe (t-90000000000) Z fun Z=>qp n r Z K else if t<1000000 then wq false n t Z fun Z=>qp n r Z K else if t<1000000000 then (if t / 1000000=999 then wq true n (t % 1000000) Z fun Z=>qp n r Z K else Tj (t / 1000000) (t % 1000000) Z fun Z=>qp n r Z K) else if t<2000000000 then vQ false n (t / 1000000-1000) (n+t % 1000000) Z fun Z=>qp n r Z K else if 500<=t / 1000000 % 1000 then TZ (t / 1000000 % 1000-500) (Gj n t Z) Z fun Z=>qp n r Z K else vQ true n (t / 1000000 % 1000) (Gj n t Z) Z fun Z=>qp n r Z K
def MG (l:List Pat) (i:Option Nat):Option Pat :=
 match i with
 |some i=>l.find? fun p=>p.id == i
 |none=>none
mutual
def vq:AV->AV->Bool
 |.int k _,.int k' _=>decide (k=k')
 |.bool _,.bool _=>true
 |.str _,.str _=>true
 |.slc _ _,.slc 3 _=>true
 |.lit k n,.lit k' n'=>decide (k=k'/\n=n')
 |.tup _,.agg _=>true
 |.agg cs,.agg cs'=>qZ cs cs'
 |.eptr cs o,.eptr cs' o'=>decide (o=o') && qZ cs cs'
 |.iface t v,.iface t' v'=>decide (t=t') && vq v v'
 |.undef,v=>v.tree
 |.nilif,.slc 0 [] | .nilif,.slc 3 (_::_)=>true
 |_,_=>false
def qZ:List AV->List AV->Bool
 |[],[]=>true
 |x::r,y::s=>vq x y && qZ r s
 |_,_=>false
end
mutual
def Ky:AV->(AV->Prop)->Prop
 |.int k _,K=>∀n:Int,K (.int k n)
 |.bool _,K=>∀b:Bool,K (.bool b)
 |.str _,K=>∀s:ByteArray,K (.str s)
 |.slc _ _,K=>∀es:List AV,K (.slc 3 es)
 |.lit k n,K=>K (.lit k n)
 |.tup _,K=>∀cs:List AV,K (.agg cs)
 |.agg cs,K=>Y5 cs fun cs=>K (.agg cs)
 |.eptr cs o,K=>Y5 cs fun cs=>K (.eptr cs o)
 |.iface t v,K=>Ky v fun v=>K (.iface t v)
 |.undef,K=>∀v:AV,v.tree=true->K v
 |.nilif,K=>K (.slc 0 [])/\∀(v:AV) (r:List AV),K (.slc 3 (v::r))
 |_,_=>True
def Y5:List AV->(List AV->Prop)->Prop
 |[],K=>K []
 |x::r,K=>Ky x fun v=>Y5 r fun l=>K (v::l)
end
def Kw:Nat->(List (List AV)->Prop)->Prop
 |0,K=>K []
 |m+1,K=>∀es:List AV,Kw m fun l=>K (es::l)
def Nc (ps:List (Nat × Nat)) (ts:List Nat) (b:Nat):Option Nat :=
 match ps.lookup b with
 |some i=>some i
 |none=>if ts.contains b then none else some b
def self (h:Nat->Option Nat) (b:Nat):Bool :=
 match h b with
 |some i=>i == b
 |none=>false
def AV.fixed (h:Nat->Option Nat) (v:AV):Bool:=v.refs.all (self h)
def xw (n:Nat) (p:Pat) (Z:St):List (Nat × Nat):=p.app.filterMap fun q=>match Z.sl.getD q.1 .undef with
 |.aslc b _ _ _ _=>some (b,n+q.1)
 |_=>none
def Pat.zJ (n:Nat) (p:Pat) (Z:St):Nat->Option Nat:=Nc (xw n p Z) (p.app.map fun q=>n+q.1)
def GZ (P:Program) (n:Nat) (p:Pat) (gs:List AV) (ls:List (List AV)):List (Nat × AV) :=
 (p.gen.map (·.1)).zip gs++List.zipWith (fun q es=>(q.1,.aslc (n+q.1) 0 es.length (P.cellsOf q.2) (yp P q.2))) p.app ls
def Ji (n:Nat) (p:Pat) (Z:St) (ls:List (List AV)) (bs:List AV):List (Nat × Bx) :=
 List.zipWith (fun q es=>(n+q.1,⟨q.2,true,es.flatMap AV.cells⟩)) p.app ls ++
 List.zipWith (fun q v=>(q.1,match Z.bx.getD q.1 none with
  |some x=>{ x with cs:=v.cells }
  |none=>⟨0,false,v.cells⟩)) p.bgen bs
def q6 (P:Program) (n:Nat) (keep D:List Nat) (p:Pat) (Z:St) (gs:List AV) (ls:List (List AV)) (bs:List AV):St :=
 ⟨WG Z.sl fun t v=>if keep.contains t then (match (GZ P n p gs ls).lookup t with
   |some v=>v
   |none=>if D.contains t then .undef else v) else .undef,
  WG Z.bx fun b x=>match (Ji n p Z ls bs).lookup b with
   |some y=>some y
   |none=>if (xw n p Z).any (fun q=>q.1 == b) then none else x⟩
def xT (gs:List AV) (ls:List (List AV)) (bs:List AV):List AV:=gs++(ls.map (AV.slc 3)++bs)
def Pw (P:Program) (n:Nat) (keep D:List Nat) (p:Pat) (Z:St) (C:List AV->St->Prop):Prop :=
 Y5 (p.gen.map (·.2)) fun gs=>Kw p.app.length fun ls=>Y5 (p.bgen.map (·.2)) fun bs=>C (xT gs ls bs) (q6 P n keep D p Z gs ls bs)
def Jd (sk v:AV):AV:=match sk with
 |.nilif=>v
 |_=>v.norm
def WU (Z:St):List (Nat × AV)->Option (List AV)
 |[]=>some []
 |(t,sk)::r=>if (Z.sl.getD t .undef).tree && vq sk (Jd sk (Z.sl.getD t .undef)) then (WU Z r).map (Jd sk (Z.sl.getD t .undef)::·) else none
def Xf (Z0 Z:St):List (Nat × AV)->Option (List AV)
 |[]=>some []
 |(b,sk)::r=>match Z0.bx.getD b none,Z.bx.getD b none with
  |some x,some y=>if x.arr == y.arr && (x.arr || AV.zi y.cs) && vq sk (.agg (AV.za y.cs)) then (Xf Z0 Z r).map (.agg (AV.za y.cs)::·) else none
  |_,_=>none
def uX (P:Program) (Z:St):List (Nat × TypeId)->(List (List AV)->Prop)->Prop
 |[],C=>C []
 |(t,e)::r,C=>match Z.sl.getD t .undef with
  |.slc 0 [] | .slc 2 []=>uX P Z r fun l=>C ([]::l)
  |.aslc b off len esz ag=>match Z.bx.getD b none with
   |some x=>if x.arr && off == 0 && esz == P.cellsOf e && ag == yp P e then ∃es:List AV,(es.length=len/\es.flatMap AV.cells=x.cs)/\uX P Z r fun l=>C (es::l) else False
   |none=>False
  |_=>False
def uL (entry:Bool) (h:Nat->Option Nat) (skip:Nat->Bool) (Z:St):Nat->List (Option Bx)->Prop->Prop
 |_,[],C=>C
 |b,none::r,C=>uL entry h skip Z (b+1) r C
 |b,some x::r,C=>if skip b then uL entry h skip Z (b+1) r C else
  match Z.bx.getD b none with
  |some y=>if y.arr == x.arr && self h b && (x.arr || x.cs.all (AV.fixed h)) then
    if entry then uL entry h skip Z (b+1) r C else y.cs=x.cs/\uL entry h skip Z (b+1) r C
   else False
  |none=>False
def Jj (n:Nat) (keep D:List Nat) (p:Pat) (Z0 Z:St):Bool :=
 decide ((p.app.map (·.1)).Nodup) && decide (((xw n p Z).map (·.1)).Nodup) &&
 p.bgen.all (fun q=>self (p.zJ n Z) q.1) &&
 keep.all (fun t=>D.contains t || (Z0.sl.getD t .undef).fixed (p.zJ n Z))
def xY (D:List Nat) (p:Pat):Bool:=(p.gen.map (·.1)++p.app.map (·.1)).all (fun t=>D.contains t)
def NS (P:Program) (n:Nat) (keep D:List Nat) (p:Pat) (entry:Bool) (Z0 Z:St) (C:List AV->Prop):Prop :=
 if Jj n keep D p Z0 Z then
  uL entry (p.zJ n Z) (fun b=>(p.bgen.map (·.1)).contains b || (p.app.map fun q=>n+q.1).contains b || (xw n p Z0).any (fun q=>q.1 == b)) Z 0 Z0.bx <|
  match WU Z p.gen,Xf Z0 Z p.bgen with
  |some gs,some bs=>uX P Z p.app fun ls=>C (xT gs ls bs)
  |_,_=>False
 else False
def XU (Z:St) (b off:Nat):AV:=match Z.bx.getD b none with
 |some x=>x.cs.getD off .undef
 |none=>.undef
def XH (bx:List (Option Bx)) (b off:Nat) (v:AV):List (Option Bx):=match bx.getD b none with
 |some x=>bx.set b (some { x with cs:=x.cs.set off v })
 |none=>bx
def uN (q:Nat × Nat × TypeId) (Z:St):St:=⟨Z.sl++[XU Z q.1 q.2.1],XH Z.bx q.1 q.2.1 .undef⟩
def j5:List (Nat × Nat × TypeId)->St->St
 |[],Z=>Z
 |q::r,Z=>j5 r (uN q Z)
def Ys (q:Nat × Nat × TypeId) (τ:St):St:=⟨τ.sl.take (τ.sl.length-1),XH τ.bx q.1 q.2.1 (τ.sl.getD (τ.sl.length-1) .undef)⟩
def wY:List (Nat × Nat × TypeId)->St->St
 |[],τ=>τ
 |q::r,τ=>Ys q (wY r τ)
def qQ (L:Nat) (cap:List (Nat × Nat × TypeId)):List Nat:=(List.range cap.length).map (L+·)
def Pat.up (L:Nat) (p:Pat):Pat:={ p with app:=p.app++List.zipWith (fun t q=>(t,q.2.2)) (qQ L p.cap) p.cap }
def Mh (h:Nat->Option Nat):List (Nat × Nat × TypeId)->St->Bool
 |[],_=>true
 |q::r,Z=>(match Z.bx.getD q.1 none with
  |some x=>!x.arr && (qh x.cs).isNone && decide (q.2.1<x.cs.length)
  |none=>false) && self h q.1 && Mh h r (uN q Z)
def qe (P:Program) (n:Nat) (keep D:List Nat) (p:Pat) (entry:Bool) (Z0 Z:St) (C:List AV->Prop):Prop :=
 let L:=Z0.sl.length
 if Mh ((p.up L).zJ n (j5 p.cap Z)) p.cap Z then NS P n (keep++qQ L p.cap) (D++qQ L p.cap) (p.up L) entry (j5 p.cap Z0) (j5 p.cap Z) C else False
def jV (P:Program) (n:Nat) (keep D:List Nat) (p:Pat) (Z:St) (C:List AV->St->Prop):Prop :=
 let L:=Z.sl.length
 Pw P n (keep++qQ L p.cap) (D++qQ L p.cap) (p.up L) (j5 p.cap Z) fun vs τ=>C vs (wY p.cap τ)
def G3 (Z:St) (b:Nat):Bool:=match Z.bx.getD b none with
 |some x=>x.mp.isSome
 |none=>false
def Gh (n:Nat) (Z:St) (c:Nat):Nat :=
 if c<1000000 then n+c else if c<2000000 then c-1000000 else if c<3000000 then (match Z.sl.getD (c-2000000) .undef with
  |.ref b _=>b
  |.aslc b ..=>b
  |_=>1000000) else ((kL Z.zX 30 (AV.refs (Z.sl.getD (c-3000000) .undef)) []).find? (G3 Z)).getD 1000000
def Pat.res (n:Nat) (Z:St) (p:Pat):Pat:={ p with bgen:=(p.bgen.map fun q=>(Gh n Z q.1,q.2)).filter fun q=>!(q.1 == 1000000),cap:=p.cap.map fun q=>(Gh n Z q.1,q.2) }
def Mz (P:Program) (n:Nat) (keep D:List Nat) (p:Pat) (f:St->(Ex->St->Prop)->Prop) (Z:St) (K:Ex->St->Prop):Prop :=
 if xY D p then ∃I:Nat->List AV->Prop,qe P n keep D p true Z Z (fun vs=>∃m,I m vs) /\
  ∀m:Nat,jV P n keep D p Z fun vs τ=>I m vs->f τ fun e Z1=>match e with
   |.normal=>qe P n keep D p false Z Z1 fun vs=>∃k,k<m/\I k vs
   |e=>K e Z1
 else False
def Mu (P:Program) (n:Nat) (keep D:List Nat) (p:Pat) (f g:St->(Ex->St->Prop)->Prop) (Z:St) (K:Ex->St->Prop):Prop :=
 if xY D p then ∃J:List AV->Prop,(f Z fun e Z1=>match e with
   |.normal=>qe P n keep D p false Z Z1 J
   |e=>K e Z1)/\jV P n keep D p Z fun vs τ=>J vs->g τ K
 else False
mutual
def AV.yd:AV->AV
 |.map _=>.undef
 |.eptr cs o=>.eptr (AV.zn cs) o
 |.agg cs=>.agg (AV.zn cs)
 |v=>v
def AV.zn:List AV->List AV
 |[]=>[]
 |x::r=>x.yd::AV.zn r
end
def j6 (sl:List AV):List Nat->List AV->List AV
 |p::ps,x::xs=>j6 (sl.set p x) ps xs
 |_,_=>sl
def St.more (Z:St) (k:Nat):St:=⟨Z.sl,Z.bx++List.replicate k none⟩
def yJ:Code->Bool
 |.rangeFunc ..=>false
 |.seq a b | .cond _ a b=>yJ a && yJ b
 |.block _ b | .loop b | .scope b=>yJ b
 |_=>true
def QL:Operand->List Nat
 |.tmp t=>[t]
 |_=>[]
def YZ (n:Nat) (ps:List Nat) (f:St->(Ex->St->Prop)->Prop) (K:Ex->St->Prop):List (List AV)->St->Prop
 |[],τ=>K .normal τ
 |x::r,τ=>if yE τ && decide (n<=τ.bx.length) then f ⟨j6 τ.sl ps x,τ.bx++List.replicate τ.sl.length none⟩ fun e Z1=>if qL n τ.bx Z1.bx then (match e with
    |.normal=>YZ n ps f K r ⟨τ.sl,Z1.bx⟩
    |e=>K e ⟨τ.sl,Z1.bx⟩) else False
   else False
def Wd (Z:St) (l:List AV):List Nat:=kL (fun b=>(Z.box b).map AV.zn) 30 (AV.zd (AV.zn l)) []
def QE (P:Program) (S:Specs) (n:Nat) (keep cl:List Nat) (p:Pat) (g:Operand) (ps:List Nat) (f:St->(Ex->St->Prop)->Prop) (Z:St) (K:Ex->St->Prop):Prop :=
 match ev Z g with
 |.fn gf [] capz =>
  match (Wd Z capz).mapM (fun b=>Z.bx.getD b none) with
  |some bs =>
   if bs.all (fun x=>!x.arr && (AV.zb x.cs).isEmpty) && (AV.zb (AV.zn capz)).isEmpty && decide (Wd Z capz).Nodup && decide (p.yl.length=ps.length) && xY [] p then
    ∃xs:List (List AV),S.seq gf (AV.za (AV.zg (idx · (Wd Z capz)) (AV.zn capz))) (bs.map fun x=>AV.za (AV.zg (idx · (Wd Z capz)) (AV.zn x.cs))) xs /\
     (let Z0:St:=⟨(QL g++cl).foldl (fun l t=>l.set t .undef) Z.sl,WG Z.bx fun b x=>if (Wd Z capz).contains b then none else x⟩
      if p.un.any List.isEmpty=true then
      (∀x∈xs,qZ p.yl x=true/\AV.zi x=true)/\(xs=[]->K .normal Z0) /\
      let p:=p.res n Z0
      ∃I:Nat->List AV->Prop,(Y5 p.yl fun x=>xs[0]? = some x ->
       if yE Z0 && decide (n<=Z0.bx.length) then f ⟨j6 Z0.sl ps x,Z0.bx++List.replicate Z0.sl.length none⟩ fun e Z1=>if qL n Z0.bx Z1.bx then (match e with
        |.normal=>qe P n keep [] p false Z0 ⟨Z0.sl,Z1.bx⟩ (I 1)
        |e=>K e ⟨Z0.sl,Z1.bx⟩) else False
       else False) /\
       (∀i:Nat,Y5 p.yl fun x=>xs[i+1]? = some x->jV P n keep [] p Z0 fun vs τ=>I (i+1) vs ->
       if yE τ && decide (n<=τ.bx.length) then f ⟨j6 τ.sl ps x,τ.bx++List.replicate τ.sl.length none⟩ fun e Z1=>if qL n τ.bx Z1.bx then (match e with
        |.normal=>qe P n keep [] p false Z0 ⟨τ.sl,Z1.bx⟩ (I (i+2))
        |e=>K e ⟨τ.sl,Z1.bx⟩) else False
       else False) /\
       jV P n keep [] p Z0 fun vs τ=>I xs.length vs->K .normal τ
      else
      if p.un.isEmpty=false then ((p.un.all fun x=>AV.zi x && x.length == ps.length)=true/\xs=p.un)/\YZ n ps f K p.un Z0 else
      (∀x∈xs,qZ p.yl x=true/\AV.zi x=true) /\
      let p:=p.res n Z0
      ∃I:Nat->List AV->Prop,qe P n keep [] p true Z0 Z0 (I 0) /\
      (∀i:Nat,Y5 p.yl fun x=>xs[i]? = some x->jV P n keep [] p Z0 fun vs τ=>I i vs ->
       if yE τ && decide (n<=τ.bx.length) then f ⟨j6 τ.sl ps x,τ.bx++List.replicate τ.sl.length none⟩ fun e Z1=>if qL n τ.bx Z1.bx then (match e with
        |.normal=>qe P n keep [] p false Z0 ⟨τ.sl,Z1.bx⟩ (I (i+1))
        |e=>K e ⟨τ.sl,Z1.bx⟩) else False
       else False) /\
      jV P n keep [] p Z0 fun vs τ=>I xs.length vs->K .normal τ)
   else False
  |none=>False
 |_=>False
end
structure Hook where
 kind:Nat
 cnt:Nat
 ins:List Nat
 outs:List Nat
 clob:List Nat
def Nf:AV->List Nat
 |.tup l=>l.filterMap fun v=>match v with
  |.lit _ n=>some n.toNat
  |_=>none
 |_=>[]
def Qn:List AV->Option Hook
 |[.lit _ k,.lit _ c,i,o,q]=>some ⟨k.toNat,c.toNat,Nf i,Nf o,Nf q⟩
 |_=>none
def kF (w:Ways) (id:Option Nat):Option Hook:=match id with
 |some id=>if w.ro.contains 995000000 then none else (w.alts.lookup (990000000+id)).bind Qn
 |none=>none
def y7 (L:List (List Int)) (i k:Nat) (j:Int):List (List Int):=L.set i ((L.getD i []).take k++j::(L.getD i []).drop k)
def UZ (L:List (List Int)):AV:=.slc 3 (L.map fun x=>.slc 3 (x.map (AV.int .i64)))
def xA (h:Hook) (Z:St):St:=⟨(h.outs++h.clob).foldl (fun l t=>l.set t .undef) Z.sl,Z.bx⟩
mutual
def AV.zy (m:Bool):AV->Bool
 |.tt | .ff | .bool _=>!m
 |.slc _ es=>AV.zw true es
 |.eptr cs _=>AV.zw true cs
 |.agg cs | .tup cs=>AV.zw m cs
 |.fn _ a b=>AV.zw m a && AV.zw m b
 |.iface _ v=>v.zy m
 |_=>true
def AV.zw (m:Bool):List AV->Bool
 |[]=>true
 |x::r=>x.zy m && AV.zw m r
end
def Gm:AV->Bool
 |.slc .. | .eptr .. | .agg _ | .tup _ | .fn .. | .iface ..=>true
 |_=>false
def Uj:List AV->Prop->Prop
 |[],K=>K
 |v::r,K=>if Gm v then v.zy false=true/\Uj r K else Uj r K
def TN:List (Option Bx)->Prop->Prop
 |[],K=>K
 |none::r,K=>TN r K
 |some x::r,K=>Uj x.cs (TN r K)
def G2:AV->Bool
 |.tt | .ff | .bool _=>true
 |_=>false
def Ol (h:Hook) (Z:St) (K:St->Prop):Prop :=
 match h.ins with
 |[t,off,p]=>match Z.sl.getD t .undef with
  |.ref b 0=>match Z.bx.getD b none with
   |some x=>if x.arr || (qh x.cs).isSome || (qh (x.cs.set off .undef)).isSome || Z.bx.any (fun | some y=>y.mp.isSome | none=>false) then False else match x.cs.getD off .undef with
    |.slc _ es=>∃(js r:List AV),(es=.agg js::r/\G2 (js.getD p .undef)=true/\AV.zw false js=true/\AV.zw false r=true) /\
      Uj Z.sl (TN (Z.bx.set b none) (Uj (x.cs.set off .undef) (K (xA h ⟨Z.sl,Z.bx.set b (some { x with cs:=x.cs.set off (.slc 3 (.agg (js.set p (.bool true))::r)) })⟩))))
    |_=>False
   |none=>False
  |_=>False
 |_=>False
def UP (h:Hook) (Z:St) (K:St->Prop):Prop :=
 if (h.ins++(h.outs++h.clob)).all (fun t=>decide (t<Z.sl.length))=false then False else
 if h.kind=1 then Ol h Z K else
 match h.kind,h.ins.map (fun t=>Z.sl.getD t .undef),h.outs with
 |0,[.slc _ es,i,k,j],[d]=>match i.zr,k.zr,j.zr with
  |some (.i64,i,_),some (.i64,k,_),some (.i64,j,_)=>∃L:List (List Int),(AV.slc 3 es=UZ L/\0<=i/\i<L.length/\0<=k/\k<=(L.getD i.toNat []).length/\L.length<=1000/\∀x∈L,x.length<=1000) /\
    K ((xA h Z).put (some d) (UZ (y7 L i.toNat k.toNat j)))
  |_,_,_=>False
 |_,_,_=>False
def j8:Nat->Code->Code
 |k+1,.seq _ b=>j8 k b
 |_,c=>c
def qK (P:Program) (S:Specs) (ctl:Ctl):Code->Nat->Nat->St->(Ex->St->Prop)->Prop
 |.skip,_,_,Z,K=>K .normal Z
 |.region id ops false,_,n,Z,K=>qp n (ctl.zH id) Z fun Z=>if Jz P ops.toList then uv P S n ops.toList none Z fun Z=>YG ctl.keep Z (K .normal) else xv P S n (qf ops.toList) ops.toList Z fun Z=>YG ctl.keep Z (K .normal)
 |.region id ops true,_,n,Z,K=>qp n (ctl.zH id) Z fun Z=>kB (zam S.frs ops ops.size (List.range ops.size) []) fun ord=>if (uu S.frs ops).all (fun d=>vR n d Z) && SJ ops ord then T2 P S n ops ord Z fun Z=>YG ctl.keep Z (K .normal) else False
 |.seq a b,sk,n,Z,K=>if sk≠0 then qK P S ctl b (sk-1) n Z K else match kF S.frs (jT a) with
  |some h=>if (h.outs++h.clob).all (fun t=>(ctl.dsts (.seq a b)).contains t) then UP h Z fun Z=>qK P S ctl b h.cnt n Z K else False
  |none=>match MG ctl.joins (jT b) with
  |some p=>Mu P n ctl.keep (ctl.dsts a) (p.res n Z) (fun Z K'=>qK P S ctl a 0 n Z fun e Z=>match e with
    |.normal=>qp n (ctl.zH (p.id+5000000)) Z fun Z=>K' .normal Z
    |e=>K' e Z) (qK P S ctl b 0 n) Z K
  |none=>qK P S ctl a 0 n Z fun e Z=>match e with
   |.normal=>qK P S ctl b 0 n Z K
   |e=>K e Z
 |.cond c a b,_,n,Z,K=>match ev Z c with
  |.tt=>qK P S ctl a 0 n Z K
  |.ff=>qK P S ctl b 0 n Z K
  |.bool x=>br x (qK P S ctl a 0 n Z K) (qK P S ctl b 0 n Z K)
  |_=>False
 |.block id b,_,n,Z,K=>qK P S ctl b 0 n Z fun e Z=>match e with
  |.exit i=>if i=id then K .normal Z else K (.exit i) Z
  |e=>K e Z
 |.loop b,_,n,Z,K=>match MG ctl.loops (jT b) with
  |some p=>Mz P n ctl.keep (ctl.dsts b) (p.res n Z) (qK P S ctl b 0 n) Z K
  |none=>PG (qK P S ctl b 0 n) 8 Z K
 |.exit id,_,_,Z,K=>K (.exit id) Z
 |.ret,_,_,Z,K=>K .ret Z
 |.rangeFunc g ps a b,_,n,Z,K=>match MG ctl.loops (jT b) with
  |some p=>if yJ a && yJ b then QE P S n ctl.keep ((ctl.fz.filter fun q=>decide (q.2<1000000000)).map fun q=>q.2 % 1000000) p g ps.toList (fun τ K'=>qK P S ctl a 0 (τ.bx.length-τ.sl.length) τ fun e Za=>match e with
    |.normal=>if yE Za && (List.range (τ.bx.length-τ.sl.length)).all (fun b=>qq τ.bx b == qq Za.bx b) then qK P S ctl b 0 Za.bx.length (Za.more (Za.sl.length+8)) K' else False
    |_=>False) Z K else False
  |none=>False
 |_,_,_,_,_=>False
abbrev awp (P:Program) (S:Specs) (n:Nat) (ctl:Ctl) (c:Code) (Z:St) (K:Ex->St->Prop):Prop:=qK P S ctl c 0 n Z K
section
variable (P:Program) (S:Specs) (n:Nat)
mutual
def AV.sub (fr:Nat->Nat->AV) (fa:Nat->Nat->Nat->Nat->Bool->AV):AV->AV
 |.ref b off=>fr b off
 |.aslc b off len esz ag=>fa b off len esz ag
 |.map b=>match fr b 0 with
  |.ref i _=>.map i
  |_=>.undef
 |.fn g a b=>.fn g (AV.zD fr fa a) (AV.zD fr fa b)
 |.iface t v=>.iface t (v.sub fr fa)
 |.eptr cs off=>.eptr (AV.zD fr fa cs) off
 |.agg cs=>.agg (AV.zD fr fa cs)
 |.tup cs=>.tup (AV.zD fr fa cs)
 |v=>v
def AV.zD (fr:Nat->Nat->AV) (fa:Nat->Nat->Nat->Nat->Bool->AV):List AV->List AV
 |[]=>[]
 |x::r=>x.sub fr fa::AV.zD fr fa r
end
def Hc (m:Nat) (Z:St) (g:AV->AV) (b off:Nat):AV :=
 if b<m then .ref b off else
  match Z.bx.getD b none with
  |some x=>if x.arr || (qh x.cs).isSome then .undef else if AV.zi (x.cs.map g) then .eptr (AV.za (x.cs.map g)) off else .undef
  |none=>.undef
def Hb (m:Nat) (Z:St):Nat->AV->AV
 |0=>AV.sub (fun b off=>if b<m then .ref b off else .undef) (fun _ _ _ _ _=>.undef)
 |k+1=>AV.sub (Hc m Z (Hb m Z k)) (fun _ _ _ _ _=>.undef)
def frz (m:Nat) (Z:St):AV->AV :=
 AV.sub (Hc m Z (Hb m Z 3))
  (fun b off len esz ag=>match Z.zh b with
   |some cs=>if b<m then .aslc b off len esz ag else .slc 3 (chunks esz ag len (cs.drop off))
   |none=>.undef)
def Mw (m b:Nat):Option Nat:=if b<m then some b else none
def WJ (Z:St):ResultVar->Option AV
 |.tmp t=>some (Z.sl.getD t .undef)
 |.cell a t=>match Z.sl.getD a .undef with
  |.ref b off=>match Z.box b with
   |some cs=>if (qh cs).isSome then none else qT P t cs off
   |none=>none
  |.eptr cs off=>qT P t cs off
  |_=>none
def XJ:List AV->AV
 |[v]=>v
 |vs=>.tup vs
def T6 (Z:St):List Nat->Prop->Prop
 |[],K=>K
 |b::r,K=>match Z.bx.getD b none with
  |some x=>if x.arr then x.cs.all qu=true/\T6 Z r K else T6 Z r K
  |none=>T6 Z r K
def HL (fn:Func) (Z:St) (Q:AV->List (List AV)->Prop):Prop :=
 match fn.results.toList.mapM (WJ P Z) with
 |some vs =>
  match (List.range n).mapM (fun b=>Z.bx.getD b none) with
  |some X=>if (X.all fun x=>x.arr || xB x.cs (x.cs.map (frz n Z)))=false then False else
   T6 Z (List.range n) <| jh Z.zh (AV.zb vs++AV.zb (X.flatMap fun x=>if x.arr then [] else x.cs)) <| Q (((frz n Z (XJ vs)).zj (Mw n)).zI) (X.map fun x=>if x.arr then x.cs else AV.za (AV.zg (Mw n) (x.cs.map (frz n Z))))
  |none=>False
 |none=>False
def HM (fn:Func) (k:Nat) (Z:St) (Q:List AV->Prop):Prop :=
 match fn.results.toList.mapM (WJ P Z) with
 |some [.slc 0 []]=>Q []
 |some [.aslc b 0 len esz ag]=>match Z.bx.getD b none with
  |some x=>if x.arr && decide (esz=k) && decide (0<k) then
    (x.cs.length=len*esz/\(ag=false->esz=1/\yw x.cs=true))/\Q (chunks esz ag len x.cs) else False
  |none=>False
 |_=>False
def wR (fn:Func) (args:List AV) (boxes:List Bx):St :=
 ⟨args++List.replicate (fn.ntmps-args.length) .undef,boxes.map some++List.replicate (fn.ntmps+8) none⟩
def ON (ctl:Ctl) (fn:Func) (args:List AV) (boxes:List Bx) (Q:AV->List (List AV)->Prop):Prop :=
 match fn.body with
 |some c=>awp P S n ctl c (wR fn args boxes) fun e Z=>match e with
  |.normal | .ret=>HL P n fn Z Q
  |_=>False
 |none=>False
def ID (ctl:Ctl) (fn:Func) (args:List AV) (k:Nat) (Q:List AV->Prop):Prop :=
 match fn.body with
 |some c=>awp P S 0 ctl c (wR fn args []) fun e Z=>match e with
  |.normal | .ret=>HM P fn k Z Q
  |_=>False
 |none=>False
def Lp (f:FuncId) (args:List AV) (Z:St) (K:AV->St->Prop):Prop :=
 match S.frs.il.lookup f,P.funcs[f]? with
 |some ctl,some fn=>match fn.body with
  |some c=>if decide (args.length<=fn.ntmps) && yE ⟨Z.sl++args,Z.bx⟩ then
    awp P S Z.bx.length ctl c ⟨args++List.replicate (fn.ntmps-args.length) .undef,Z.bx++List.replicate (fn.ntmps+8) none⟩ fun e τ=>match e with
     |.normal | .ret=>match fn.results.toList.mapM (WJ P τ) with
      |some vs=>K (XJ vs) ⟨Z.sl,τ.bx⟩
      |none=>False
     |_=>False
   else False
  |none=>False
 |_,_=>False
def mkS (sp:SpecF) (fr:FuncId->List AV->Nat->List AV->Prop) (sq:FuncId->List AV->List (List AV)->List (List AV)->Prop) (w:Ways):Nat->Specs
 |0=>⟨sp,fr,w,fun _ _ _ _=>False,sq⟩
 |k+1=>⟨sp,fr,w,Lp P (mkS sp fr sq w.inner k),sq⟩
end
end Go.Proofs.YtdeeekgohhkdbaaGreatDoor
