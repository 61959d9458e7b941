/- The evaluator: what a piece of code does with abstract values, in the order of the text, as a statement in continuation style. Nothing here speaks of one program. -/
import Derived.Test.YtblebiafhhhflaaGreatV
import Derived.MapKept
import Derived.DeepKeys3
namespace Go.Proofs.YtblebiafhhhflaaGreat
open Go.RowKit

abbrev Same (l:List AV):Prop:=l = l
structure Bx where
 ty:TypeId
 arr:Bool
 cs:List AV
def Bx.refs (x:Bx):List Nat:=if x.arr then [] else AV.refsL x.cs
def mapC1:AV → Option (List AV)
 | .iface t (.slc _ es) => if t = 1000000 then some es else none
 | _ => none
def mapC:List AV → Option (List AV)
 | [x] => mapC1 x
 | _ => none
def Bx.mp (x:Bx):Option (List AV):=if x.arr then none else mapC x.cs
def keepsMap (cs cs':List AV):Bool:=(mapC cs).isSome || (mapC cs').isNone
structure St where
 sl:List AV
 bx:List (Option Bx)

def mapFrom {α β:Type} (f:Nat → α → β):Nat → List α → List β
 | _,[] => []
 | i,x :: r => f i x :: mapFrom f (i + 1) r
def mapI {α β:Type} (l:List α) (f:Nat → α → β):List β:=mapFrom f 0 l
theorem mapFrom_get {α β:Type} (f:Nat → α → β):∀ (l:List α) (i j:Nat),(mapFrom f i l)[j]? = (l[j]?).map (f (i + j)):=by
 intro l
 induction l with
 | nil => intro i j; rfl
 | cons x r ih =>
  intro i j
  cases j with
  | zero => rfl
  | succ j => simp only [mapFrom,List.getElem?_cons_succ,ih]; rw [show i + 1 + j = i + (j + 1) by omega]
theorem mapI_get {α β:Type} {l:List α} {f:Nat → α → β} {j:Nat}:(mapI l f)[j]? = (l[j]?).map (f j):=by
 unfold mapI; rw [mapFrom_get,Nat.zero_add]
theorem mapI_len {α β:Type} {l:List α} {f:Nat → α → β}:(mapI l f).length = l.length:=by
 have:∀ (l:List α) (i:Nat),(mapFrom f i l).length = l.length:=by
  intro l
  induction l with
  | nil => intro i; rfl
  | cons x r ih => intro i; simp only [mapFrom,List.length_cons,ih]
 exact this l 0

def St.put (σ:St) (d:Option Nat) (v:AV):St :=
 match d with
 | some d => { σ with sl:=σ.sl.set d v }
 | none => σ
def St.box (σ:St) (b:Nat):Option (List AV):=(σ.bx.getD b none).map (·.cs)

def St.boxV (σ:St) (b:Nat):Option (List AV) :=
 match σ.bx.getD b none with
 | some x => if x.arr then some [] else some x.cs
 | none => none
def St.boxN (σ:St) (b:Nat):Option (List AV) :=
 match σ.bx.getD b none with
 | some x => if x.mp.isSome then none else if x.arr then some x.cs else if AV.treeL x.cs then some (AV.normL x.cs) else none
 | none => none
def ofV1:Value → AV
 | .bool true => .tt
 | .bool false => .ff
 | .int k n => .lit k n
 | .string s => .str s
 | .pointer none => .nilp
 | .slice none 0 0 => .slc 0 []
 | .map none => .nilmap
 | .nilFunc => .nilfn
 | .nilIface => .nilif
 | _ => .undef
def ofV:Value → AV
 | .agg cs => .agg (cs.toList.map ofV1)
 | v => ofV1 v
def ev (σ:St):Operand → AV
 | .tmp t => σ.sl.getD t .undef
 | .const v => ofV v
 | .global _ => .undef
 | .func f => .fn f [] []

def AV.isB:AV → Option Bool
 | .tt => some true
 | .ff => some false
 | .bool b => some b
 | _ => none
def AV.isI:AV → Option (IntKind × Int × Bool)
 | .lit k n => some (k,n,true)
 | .int k n => some (k,n,false)
 | _ => none
def mkI (k:IntKind) (n:Int) (known:Bool):AV:=if known then .lit k n else .int k n
def mkB (b:Bool) (known:Bool):AV:=if known then (if b then .tt else .ff) else .bool b
def ones (l:List AV):Bool:=l.all AV.one

def isAggT (P:Program) (t:TypeId):Bool :=
 match P.underlying t with
 | some (.struct _) | some (.array _ _) => true
 | _ => false
def partA (P:Program) (t:TypeId) (cs:List AV) (off:Nat):Option AV :=
 match P.underlying t with
 | some (.struct _) | some (.array _ _) => if off + P.cellsOf t ≤ cs.length then some (.agg ((cs.drop off).take (P.cellsOf t))) else none
 | some _ => cs[off]?
 | none => none
def setCells (cs:List AV) (off:Nat) (vs:List AV):List AV:=cs.take off ++ (vs ++ cs.drop (off + vs.length))

def AV.solid:AV → Bool
 | .undef | .tup _ => false
 | _ => true
def zeroA (P:Program) (t:TypeId):Option AV :=
 match (P.info? t).bind (·.zero) with
 | some z => if (ofV z).solid then some (ofV z) else none
 | none => none

def fillA (place:Nat → Option (Nat × Nat)):List AV → List (Nat × AV) → Option (List AV)
 | cs,[] => some cs
 | cs,(i,v) :: r =>
  match place i with
  | none => none
  | some (off,size) => if v.solid = false ∨ v.cells.length ≠ size ∨ off + v.cells.length > cs.length then none else fillA place (setCells cs off v.cells) r

def eqFieldsA (eq:TypeId → AV → AV → Option Bool) (P:Program) (xs ys:List AV):List Field → Option Bool
 | [] => some true
 | f :: r =>
  if f.name ≠ "_" then
   match partA P f.type xs f.offset,partA P f.type ys f.offset with
   | some a,some b =>
    match eq f.type a b,eqFieldsA eq P xs ys r with
    | some x,some y => some (x && y)
    | _,_ => none
   | _,_ => none
  else eqFieldsA eq P xs ys r
def eqElemsA (eq:AV → AV → Option Bool) (P:Program) (e:TypeId) (xs ys:List AV):Nat → Nat → Option Bool
 | _,0 => some true
 | i,n + 1 =>
  match partA P e xs (i * P.cellsOf e),partA P e ys (i * P.cellsOf e) with
  | some a,some b =>
   match eq a b,eqElemsA eq P e xs ys (i + 1) n with
   | some x,some y => some (x && y)
   | _,_ => none
  | _,_ => none
def eqA (P:Program):Nat → TypeId → AV → AV → Option Bool
 | 0,_,_,_ => none
 | d + 1,t,x,y =>
  match P.underlying t with
  | some .bool => match x.isB,y.isB with | some a,some b => some (a == b) | _,_ => none
  | some (.int _) => match x.isI,y.isI with | some (k,a,_),some (k',b,_) => if k = k' then some (a == b) else none | _,_ => none
  | some .string => match x,y with | .str a,.str b => some (a.toList == b.toList) | _,_ => none
  | some (.pointer _) => match x,y with
   | .nilp,.nilp => some true
   | .nilp,.eptr .. | .nilp,.ref .. | .eptr ..,.nilp | .ref ..,.nilp => some false
   | _,_ => none
  | some (.interface _) => match x,y with
   | .nilif,.iface .. | .iface ..,.nilif => some false
   | _,_ => none
  | some (.func ..) => match x,y with
   | .nilfn,.nilfn => some true
   | .nilfn,.fn .. | .fn ..,.nilfn => some false
   | _,_ => none
  | some (.slice _) => match x,y with
   | .slc 0 [],.slc 0 [] => some true
   | .slc 0 [],.slc _ (_ :: _) | .slc _ (_ :: _),.slc 0 [] => some false
   | _,_ => none
  | some (.struct fs) => match x,y with
   | .agg xs,.agg ys => if P.stoodInHeld t then none else eqFieldsA (eqA P d) P xs ys fs.toList
   | _,_ => none
  | some (.array n e) => match x,y with
   | .agg xs,.agg ys => if (P.underlying e).isNone then none else eqElemsA (eqA P d e) P e xs ys 0 n
   | _,_ => none
  | _ => none
def isEq:BinOp → Option Bool
 | .eql => some true
 | .neq => some false
 | _ => none
def binI (op:BinOp) (k:IntKind) (a b:Int) (l:Bool):Option AV :=
 match op with
 | .add => some (mkI k (k.wrap (a + b)) l)
 | .sub => some (mkI k (k.wrap (a - b)) l)
 | .mul => some (mkI k (k.wrap (a * b)) l)
 | .and => some (mkI k (k.wrap (BitVec.ofInt k.bits a &&& BitVec.ofInt k.bits b).toNat) l)
 | .or => some (mkI k (k.wrap (BitVec.ofInt k.bits a ||| BitVec.ofInt k.bits b).toNat) l)
 | .xor => some (mkI k (k.wrap (BitVec.ofInt k.bits a ^^^ BitVec.ofInt k.bits b).toNat) l)
 | .andNot => some (mkI k (k.wrap (BitVec.ofInt k.bits a &&& ~~~ BitVec.ofInt k.bits b).toNat) l)
 | .eql => some (mkB (a == b) l)
 | .neq => some (mkB (a != b) l)
 | .lss => some (mkB (decide (a < b)) l)
 | .leq => some (mkB (decide (a ≤ b)) l)
 | .gtr => some (mkB (decide (a > b)) l)
 | .geq => some (mkB (decide (a ≥ b)) l)
 | _ => none
def isNilConst:Operand → Bool
 | .const .nilIface => true
 | _ => false
def isIfaceT (P:Program) (t:TypeId):Bool :=
 match P.underlying t with
 | some (.interface _) => true
 | _ => false
def AV.cmp:AV → Bool
 | .tt | .ff | .bool _ | .nilp | .eptr .. | .ref .. | .slc .. | .fn .. | .nilfn | .iface .. | .nilif => true
 | _ => false
def binA (P:Program) (op:BinOp) (t:TypeId) (c:Bool) (x y:AV):Option AV :=
 match x.isI,y.isI with
 | some (k,a,l),some (k',b,l') => if k = k' then binI op k a b (l && l') else none
 | _,_ =>
  match x,y,op with
  | .str a,.str b,.eql => some (.bool (a.toList == b.toList))
  | .str a,.str b,.neq => some (.bool (!(a.toList == b.toList)))
  | .str a,.str b,.lss => some (.bool (Op.bytesLess a.toList b.toList))
  | .str a,.str b,.leq => some (.bool (Op.bytesLess a.toList b.toList || a.toList == b.toList))
  | .str a,.str b,.gtr => some (.bool (!(Op.bytesLess a.toList b.toList || a.toList == b.toList)))
  | .str a,.str b,.geq => some (.bool (!Op.bytesLess a.toList b.toList))
  | .str _,.str _,_ => none
  | .nilif,.nilif,op => if c && isIfaceT P t then (isEq op).map fun e => if e then .tt else .ff else none
  | .agg xs,.agg ys,op =>
   if P.eqGuardType P.depth t then none else
   match isEq op,eqA P 12 t (.agg xs) (.agg ys) with
   | some e,some b => some (.bool (if e then b else !b))
   | _,_ => none
  | x,y,op =>
   if x.cmp && y.cmp then
    match isEq op,eqA P 12 t x y with
    | some e,some b => some (match x.isB,y.isB with | some _,some _ => .bool (if e then b else !b) | _,_ => mkB (if e then b else !b) true)
    | _,_ => none
   else none
def maxA (gt:Bool):AV → List AV → Option AV
 | x,[] => some x
 | x,y :: r =>
  match x.isI,y.isI with
  | some (k,a,l),some (_,b,l') => maxA gt (mkI k (if gt then (if b > a then b else a) else (if b < a then b else a)) (l && l')) r
  | _,_ => none

def popA (P:Program) (e:Operand → AV):Op → Option AV
 | .move x | .assign x => some (e x)
 | .pick c a b =>
  match e c with
  | .tt => some (e a)
  | .ff => some (e b)
  | .bool x => match (e a).isB,(e b).isB with
   | some y,some z => some (.bool (if x then y else z))
   | _,_ => none
  | _ => none
 | .build t ps =>
  match P.info? t,P.underlying t with
  | some it,some (.array _ el) =>
   match it.zero,P.info? el with
   | some z,some ie => if (ofV z).solid then (fillA (fun i => some (i * ie.size,ie.size)) (ofV z).cells (ps.toList.map fun p => (p.1,e p.2))).map .agg else none
   | _,_ => none
  | some it,some (.struct fs) =>
   match it.zero,fs.toList.mapM (fun f => (P.info? f.type).map fun i => (f.offset,i.size)) with
   | some z,some places => if (ofV z).solid then (fillA (places.toArray[·]?) (ofV z).cells (ps.toList.map fun p => (p.1,e p.2))).map .agg else none
   | _,_ => none
  | _,_ => none
 | .field t x f =>
  match P.underlying t,e x with
  | some (.struct fs),.agg cs => match fs[f]? with
   | some fd => partA P fd.type cs fd.offset
   | none => none
  | _,_ => none
 | .extract x i => match e x with | .tup vs => vs[i]? | _ => none
 | .makeInterface t x => match P.underlying t with | some (.interface _) | none => none | some _ => some (.iface t (e x))
 | .makeFunc (.func f) first caps => some (.fn f (first.toList.map e) (caps.toList.map e))
 | .convert s d x => match P.underlying s,P.underlying d,(e x).isI with
  | some _,some (.int k),some (_,n,l) => some (mkI k (k.wrap n) l)
  | _,_,_ => none
 | .unOp .not _ x => match e x with
  | .tt => some .ff
  | .ff => some .tt
  | .bool b => some (.bool !b)
  | _ => none
 | .unOp .neg _ x => match (e x).isI with
  | some (k,n,l) => some (mkI k (k.wrap (0 - n)) l)
  | none => none
 | .unOp .xor _ x => match (e x).isI with
  | some (k,n,l) => some (mkI k (k.wrap (BitVec.ofInt k.bits (if k.signed then -1 else k.max) ^^^ BitVec.ofInt k.bits n).toNat) l)
  | none => none
 | .binOp op t x y _ =>
  match op with
  | .quo | .rem | .shl | .shr => none
  | _ => binA P op t (isNilConst x || isNilConst y) (e x) (e y)
 | .nilCheck x => match e x with
  | .ref b off => some (.ref b off)
  | .eptr cs off => some (.eptr cs off)
  | .iface t v => some (.iface t v)
  | .fn f a b => some (.fn f a b)
  | _ => none
 | .fieldAddr s x f =>
  match P.underlying s with
  | some (.struct fs) => match fs[f]? with
   | some fd => if P.cellsOf fd.type = 0 ∨ (P.underlying fd.type).isNone then none else
    match e x with
    | .ref b off => some (.ref b (off + fd.offset))
    | .eptr cs off => some (.eptr cs (off + fd.offset))
    | _ => none
   | none => none
  | _ => none
 | .typeAssert x _ t ok =>
  match P.underlying t,e x with
  | some (.interface _),_ | none,_ => none
  | some _,.iface t' v => if t' = t then some (if ok then .tup [v,.tt] else v) else (if ok then (zeroA P t).map fun z => .tup [z,.ff] else none)
  | some _,.nilif => if ok then (zeroA P t).map fun z => .tup [z,.ff] else none
  | _,_ => none
 | .call c =>
  match c.callee,(c.args.toList.map e) with
  | .builtin .len,[x] => match (c.argTypes[0]?).bind P.underlying,x with
   | some (.slice _),.slc _ es => some (.int .i64 es.length)
   | some (.slice _),.aslc _ _ len _ _ => some (.int .i64 len)
   | some .string,.str s => some (.int .i64 s.size)
   | some (.array n _),_ => some (.lit .i64 n)
   | _,_ => none
  | .builtin .max,x :: r => maxA true x r
  | .builtin .min,x :: r => maxA false x r
  | _,_ => none
 | _ => none

def exCells (P:Program):Nat → TypeId → (List AV → Prop) → Prop
 | 0,_,_ => False
 | d + 1,t,K =>
  match P.underlying t with
  | some .bool => ∃ b:Bool,K [.bool b]
  | some (.int k) => ∃ n:Int,K [.int k n]
  | some .string => ∃ s:ByteArray,K [.str s]
  | some (.slice _) => ∃ es:List AV,K [.slc 3 es]
  | some (.struct fs) => fs.toList.foldr (fun f k acc => exCells P d f.type fun cs => k (acc ++ cs)) K []
  | some (.array n e) => Nat.rec (motive:=fun _ => List AV → Prop) K (fun _ k acc => exCells P d e fun cs => k (acc ++ cs)) n []
  | _ => ∃ v:AV,K [v]
def exT (P:Program) (t:TypeId) (K:AV → Prop):Prop :=
 exCells P 8 t fun cs => K (if isAggT P t then .agg cs else cs.getD 0 .undef)
def exRes (P:Program):List TypeId → (AV → Prop) → Prop
 | [],K => K (.tup [])
 | [t],K => exT P t K
 | ts,K => ts.foldr (fun t k acc => exT P t fun v => k (acc ++ [v])) (fun vs => K (.tup vs)) []

def br (b:Bool) (A B:Prop):Prop:=(b = true → A) ∧ (b = false → B)
def selN (j:Int) (F:Nat → Prop):Nat → Prop
 | 0 => True
 | n + 1 => (j = (n:Int) → F n) ∧ selN j F n
def idxA (n:Nat) (i:AV) (F:Nat → Prop):Prop :=
 match i.isI with
 | some (_,j,true) => if 0 ≤ j ∧ j < n then F j.toNat else False
 | some (_,j,false) => (0 ≤ j ∧ j < n) ∧ selN j F n
 | none => False

def noRefs (b:Nat) (σ:St):Bool :=
 !(AV.refsL σ.sl).contains b && σ.bx.all fun | some x => !x.refs.contains b | none => true
def mkBox (n d:Nat) (x:Bx) (p:AV) (σ:St) (K:St → Prop):Prop :=
 if x.mp.isNone && noRefs (n + d) { sl:=σ.sl.set d .undef,bx:=σ.bx.set (n + d) none } && !x.refs.contains (n + d) && decide (d < σ.sl.length) && decide (n + d < σ.bx.length) then K { sl:=σ.sl.set d p,bx:=σ.bx.set (n + d) (some x) } else False

def reach (bx:Nat → Option (List AV)):Nat → List Nat → List Nat → List Nat
 | 0,_,seen => seen
 | _ + 1,[],seen => seen
 | k + 1,b :: r,seen =>
  if seen.contains b then reach bx k r seen else
  match bx b with
  | none => reach bx k r seen
  | some cs => reach bx k (AV.refsL cs ++ r) (seen ++ [b])

structure Pat where
 id:Nat
 gen:List (Nat × AV)
 app:List (Nat × TypeId)
 bgen:List (Nat × AV)
 cap:List (Nat × Nat × TypeId):=[]
 yl:List AV:=[]
structure Ctl where
 keep:List Nat
 loops:List Pat
 joins:List Pat
 fz:List (Nat × Nat)
abbrev SpecF:=FuncId → List AV → List (List AV) → AV → List (List AV) → Prop
abbrev FreshF:=FuncId → List AV → Nat → List AV → Prop
abbrev SeqF:=FuncId → List AV → List (List AV) → List (List AV) → Prop
structure Ways where
 fr:List FuncId
 alts:List (FuncId × List AV)
 ro:List FuncId:=[]
 il:List (FuncId × Ctl):=[]
 ow:List Nat:=[]
mutual
def exV:AV → (AV → Prop) → Prop
 | .int k _,K => ∃ n:Int,K (.int k n)
 | .bool _,K => ∃ b:Bool,K (.bool b)
 | .str _,K => ∃ s:ByteArray,K (.str s)
 | .slc _ _,K => ∃ es:List AV,K (.slc 3 es)
 | .iface t v,K => exV v fun v => K (.iface t v)
 | .agg cs,K => exL cs fun cs => K (.agg cs)
 | .tup cs,K => exL cs fun cs => K (.tup cs)
 | .fn f a c,K => exL a fun a => exL c fun c => K (.fn f a c)
 | .eptr cs off,K => exL cs fun cs => K (.eptr cs off)
 | .undef,K => ∃ v:AV,K v
 | v,K => K v
def exL:List AV → (List AV → Prop) → Prop
 | [],K => K []
 | x :: r,K => exV x fun v => exL r fun l => K (v :: l)
end
def exO:List AV → (AV → Prop) → Prop
 | [],_ => False
 | [x],K => exV x K
 | x :: r,K => exV x K ∨ exO r K
def exE (P:Program) (w:Ways) (t:TypeId) (K:AV → Prop):Prop :=
 match w.alts.lookup (1000000 + t) with
 | some l => exO l K
 | none => exT P t K
def exAlt (P:Program) (w:Ways) (f:FuncId) (ts:List TypeId) (K:AV → Prop):Prop :=
 match w.alts.lookup f with
 | some l => exO l K
 | none => exRes P ts K
abbrev InlF:=FuncId → List AV → St → (AV → St → Prop) → Prop
structure Specs where
 spec:SpecF
 fresh:FuncId → List AV → Nat → List AV → Prop
 frs:Ways
 inl:InlF
 seq:FuncId → List AV → List (List AV) → List (List AV) → Prop

def isPF (P:Program) (t:TypeId):Bool :=
 match P.underlying t with
 | some (.pointer _) | some (.func ..) | some (.map ..) => true
 | _ => false
def exBox (P:Program) (x:Bx) (K:List AV → Prop):Prop :=
 if (mapC x.cs).isSome then ∃ es:List AV,K [.iface 1000000 (.slc 3 es)] else
 if isPF P x.ty then match x.cs with
  | [.ref b o] => K [.ref b o]
  | [.map b] => K [.map b]
  | [.fn f a c] => K [.fn f a c]
  | _ => exCells P 8 x.ty K
 else exCells P 8 x.ty K
def exBoxesI (k:Nat → Bool) (P:Program):Nat → List Bx → (List (List AV) → Prop) → Prop
 | _,[],K => K []
 | i,x :: r,K => if k i then exBoxesI k P (i + 1) r fun l => K (x.cs :: l) else exBox P x fun cs => exBoxesI k P (i + 1) r fun l => K (cs :: l)
def exBoxesW (ro:Bool) (k:Nat → Bool) (P:Program) (bs:List Bx) (K:List (List AV) → Prop):Prop:=if ro then K (bs.map (·.cs)) else exBoxesI k P 0 bs K
def idx (b:Nat):List Nat → Option Nat
 | [] => none
 | x :: r => if x = b then some 0 else (idx b r).map (· + 1)
def giveBack (B:List Nat) (O:List (List AV)) (kill:List Nat) (bx:List (Option Bx)):List (Option Bx) :=
 mapI bx fun b x => if kill.contains b then none else
  match idx b B with
  | some i => x.map fun y => { y with cs:=AV.renL (B[·]?) (O.getD i []) }
  | none => x
def withOK (bx:Nat → Option (List AV)):List (Nat × Nat × Nat × Bool) → Prop → Prop
 | [],K => K
 | (b,m,esz,ag) :: r,K => match bx b with
  | some cs => if ag then m ≤ cs.length ∧ withOK bx r K else if esz = 1 then (m ≤ cs.length ∧ ones cs = true) ∧ withOK bx r K else False
  | none => withOK bx r K
def callA (P:Program) (S:Specs) (n:Nat) (f:FuncId) (args:List AV) (d:Option Nat) (σ:St) (K:St → Prop):Prop :=
 let sn:=σ.boxN
 let B:=reach (fun b => (σ.box b).map (AV.snapL sn)) 30 (AV.refsL (AV.snapL sn args)) []
 match B.mapM (fun b => σ.bx.getD b none),P.funcs[f]? with
 | some bs,some fn =>
  let asl:=AV.aslcsL args ++ AV.aslcsL (bs.flatMap (·.cs))
  let snaps:=asl.map (·.1)
  if bs.any (·.arr) || snaps.any (B.contains ·) || !decide B.Nodup || bs.any (fun x => !keepsMap x.cs (AV.snapL sn x.cs)) then False else
  withOK sn asl <|
  exAlt P S.frs f fn.resultTypes.toList fun v => exBoxesW (S.frs.ro.contains f) (fun i => S.frs.ro.contains (f + 1000000 * (i + 1))) P (bs.map fun x => { x with cs:=AV.normL (AV.renL (idx · B) (AV.snapL sn x.cs)) }) fun O' =>
   S.spec f (AV.normL (AV.renL (idx · B) (AV.snapL sn args))) (bs.map fun x => AV.normL (AV.renL (idx · B) (AV.snapL sn x.cs))) v O' ∧
   (if v.plain && O'.all AV.plainL then K ({ σ with bx:=giveBack B O' [] σ.bx }.put d (v.ren (B[·]?)))
    else if snaps.all (n ≤ ·) then K ({ σ with bx:=giveBack B O' snaps σ.bx }.put d (v.ren (B[·]?))) else False)
 | _,_ => False

def resElem (P:Program) (f:FuncId):Option TypeId :=
 match P.funcs[f]? with
 | some fn => match fn.resultTypes.toList with
  | [t] => match P.underlying t with
   | some (.slice e) => some e
   | _ => none
  | _ => none
 | none => none
def mutR (ts:List TypeId) (b len:Nat) (K:Nat → AV → Prop):Prop :=
 match ts with
 | [] => K 0 (.tup [])
 | [_] => ∃ m:Nat,m ≤ len ∧ K (m + 1) (.aslc b 0 m 1 false)
 | _ => False
def resTys (P:Program) (f:FuncId):List TypeId:=match P.funcs[f]? with
 | some fn => fn.resultTypes.toList
 | none => [0,0]
def mutA (P:Program) (S:Specs) (f:FuncId) (b len:Nat) (d:Option Nat) (σ:St) (K:St → Prop):Prop :=
 match σ.bx.getD b none with
 | some x => if x.arr then mutR (resTys P f) b len fun k v => ∃ zs zs':List Int,(x.cs = zs.map (AV.int .i64) ∧ zs.length = len ∧ 0 < len ∧ zs'.length = len ∧ S.fresh f [.tup (zs.map (AV.int .i64))] k (zs'.map (AV.int .i64))) ∧
   K ({ σ with bx:=σ.bx.set b (some { x with cs:=zs'.map (AV.int .i64) }) }.put d v) else False
 | none => False
def isMut:List AV → Option (Nat × Nat)
 | [.aslc b 0 len 1 false] => some (b,len)
 | _ => none
def isTup:AV → Bool
 | .tup _ => true
 | _ => false
def noTup:List AV → Bool
 | [] => true
 | x :: _ => !isTup x
def callF (P:Program) (S:Specs) (n:Nat) (f:FuncId) (args:List AV) (d:Option Nat) (σ:St) (K:St → Prop):Prop :=
 match isMut args with
 | some (b,len) => mutA P S f b len d σ K
 | none =>
 match d,resElem P f with
 | some d,some e =>
  if AV.treeL args && noTup args then ∃ es:List AV,S.fresh f (AV.normL args) (P.cellsOf e) es ∧
   mkBox n d ⟨e,true,es.flatMap AV.cells⟩ (.aslc (n + d) 0 es.length (P.cellsOf e) (isAggT P e)) σ K
  else False
 | _,_ => False

def carryF (P:Program) (f:FuncId):Option Bool :=
 match P.funcs[f]? with
 | some fn => if fn.body.isNone && fn.origin == "" then (if fn.name == "math/bits.Add64" then some true else if fn.name == "math/bits.Sub64" then some false else none) else none
 | none => none
def carryR (add:Bool) (x y c:Int):AV :=
 if add then .tup [.int .u64 (((x.toNat + y.toNat + c.toNat) % 18446744073709551616:Nat):Int),.int .u64 (((x.toNat + y.toNat + c.toNat) / 18446744073709551616:Nat):Int)]
 else .tup [.int .u64 (((x.toNat + 18446744073709551616 - y.toNat - c.toNat) % 18446744073709551616:Nat):Int),.int .u64 ((if x.toNat < y.toNat + c.toNat then 1 else 0:Nat):Int)]
def callG (P:Program) (S:Specs) (n:Nat) (f:FuncId) (args:List AV) (d:Option Nat) (σ:St) (K:St → Prop):Prop :=
 match carryF P f with
 | some b => match args with
  | [x,y,c] => match x.isI,y.isI,c.isI with
   | some (.u64,x,_),some (.u64,y,_),some (.u64,c,_) => (0 ≤ c ∧ c ≤ 1) ∧ K (σ.put d (carryR b x y c))
   | _,_,_ => False
  | _ => False
 | none => callF P S n f args d σ K
def live (bx:List (Option Bx)) (b:Nat):Bool:=(bx.getD b none).isSome
def allLive (σ:St):Bool:=(AV.refsL σ.sl).all (live σ.bx) && σ.bx.all fun
 | some x => x.refs.all (live σ.bx)
 | none => true
def backOK (n:Nat) (bx bx1:List (Option Bx)):Bool:=(List.range n).all (fun b => live bx b || !live bx1 b) && bx1.all fun
 | some x => x.refs.all (live bx1)
 | none => true
def callX (P:Program) (S:Specs) (n:Nat) (f:FuncId) (args:List AV) (d:Option Nat) (σ:St) (K:St → Prop):Prop :=
 if (S.frs.il.lookup f).isSome then S.inl f args σ (fun v τ => if backOK n σ.bx τ.bx && (AV.refs v).all (live τ.bx) then K (τ.put d v) else False)
 else callA P S n f args d σ K
def elemsOf (k:Nat) (es:List AV):Prop:=∀ v ∈ es,v.cells.length = k
def withCells (σ:St) (k:Nat) (x:AV) (K:Nat → List AV → Prop):Prop :=
 match x with
 | .slc _ es => elemsOf k es ∧ K es.length (es.flatMap AV.cells)
 | .aslc b off len esz _ => match σ.boxN b with
  | some cs => (esz = k ∧ off + len * esz ≤ cs.length) ∧ K len ((cs.drop off).take (len * esz))
  | none => False
 | _ => False
def methodA (P:Program) (t:TypeId) (name:String):Option FuncId :=
 match P.info? t,P.underlying t with
 | some i,some u => match i.methods.find? (·.name == name) with
  | some m => if m.path.isEmpty then match m.func,u with
    | some (f,true),.pointer _ => some f
    | some (_,false),.pointer _ => none
    | some (f,false),_ => some f
    | _,_ => none
   else none
  | none => none
 | _,_ => none

def loadA (P:Program) (t:TypeId) (σ:St) (a:AV) (K:AV → Prop):Prop :=
 match a with
 | .eptr cs off => match partA P t cs off with | some v => K v | none => False
 | .ref b off => match σ.bx.getD b none with
  | some x =>
   if x.mp.isSome then False else
   if x.arr then exT P t fun v => (partA P t x.cs off).map AV.norm = some v ∧ K v
   else match partA P t x.cs off with | some v => K v | none => False
  | none => False
 | _ => False
def storeA (P:Program) (t:TypeId) (σ:St) (a v:AV) (K:St → Prop):Prop :=
 match a with
 | .ref b off => match σ.bx.getD b none with
  | some x =>
   if v.cells.length = P.cellsOf t ∧ ones v.cells ∧ (P.underlying t).isSome then
    if x.mp.isSome then False else
    if x.arr then if v.tree then off + v.cells.length ≤ x.cs.length ∧ K { σ with bx:=σ.bx.set b (some { x with cs:=setCells x.cs off v.norm.cells }) } else False
    else if decide (off + v.cells.length ≤ x.cs.length) && (mapC (setCells x.cs off v.cells)).isNone then K { σ with bx:=σ.bx.set b (some { x with cs:=setCells x.cs off v.cells }) } else False
   else False
  | none => False
 | _ => False
def bnd (o:Option AV) (d:Int):Option (IntKind × Int × Bool) :=
 match o with
 | some v => v.isI
 | none => some (.i64,d,true)
def sliceA (P:Program) (t:TypeId) (σ:St) (x:AV) (lo hi mx:Option AV) (K:AV → Prop):Prop :=
 match P.underlying t with
 | some (.slice e) =>
  if (P.underlying e).isNone then False else
  match x with
  | .slc _ es =>
   match bnd lo 0,bnd hi es.length,mx with
   | some (_,l,_),some (_,h,_),none =>
    match lo with
    | none => (0 ≤ h ∧ h ≤ es.length) ∧ K (.slc 3 (es.take h.toNat))
    | some _ => (0 ≤ l ∧ l ≤ h ∧ h ≤ es.length ∧ elemsOf (P.cellsOf e) es) ∧ K (.slc 3 ((es.drop l.toNat).take (h.toNat - l.toNat)))
   | some (_,_l,_),some (_,h,_),some m => match m.isI,lo,hi with
    | some (_,m,_),none,some _ => (0 ≤ h ∧ h = m ∧ h ≤ es.length) ∧ K (.slc 2 (es.take h.toNat))
    | _,_,_ => False
   | _,_,_ => False
  | .aslc b off len esz ag =>
   match bnd lo 0,bnd hi len,mx with
   | some (_,l,_),some (_,h,_),none => (0 ≤ l ∧ l ≤ h ∧ h ≤ len ∧ l < len ∧ esz = P.cellsOf e) ∧ K (.aslc b (off + l.toNat * esz) (h.toNat - l.toNat) esz ag)
   | _,_,_ => False
  | _ => False
 | some (.array n e) =>
  match bnd lo 0,bnd hi n,mx with
  | some (_,l,true),some (_,h,true),none =>
   if 0 ≤ l ∧ l ≤ h ∧ h ≤ n ∧ (P.underlying e).isSome ∧ l < n then
    match x with
    | .ref b off => match σ.box b with
     | some cs => if off + n * P.cellsOf e ≤ cs.length then K (.aslc b (off + l.toNat * P.cellsOf e) (h.toNat - l.toNat) (P.cellsOf e) (isAggT P e)) else False
     | none => False
    | _ => False
   else False
  | _,_,_ => False
 | some .string =>
  match x with
  | .str s =>
   match bnd lo 0,bnd hi s.size,mx with
   | some (_,l,_),some (_,h,_),none => (0 ≤ l ∧ l ≤ h ∧ h ≤ s.size) ∧ K (.str (s.extract l.toNat h.toNat))
   | _,_,_ => False
  | _ => False
 | _ => False
def indexAddrA (P:Program) (w:Ways) (t:TypeId) (x i:AV) (K:AV → Prop):Prop :=
 match P.underlying t with
 | some (.array n e) =>
  if (P.underlying e).isNone then False else
  match x with
  | .ref b off => idxA n i fun j => K (.ref b (off + j * P.cellsOf e))
  | .eptr cs off => idxA n i fun j => K (.eptr cs (off + j * P.cellsOf e))
  | _ => False
 | some (.slice e) =>
  if (P.underlying e).isNone then False else
  match x,i.isI with
  | .slc _ es,some (_,j,_) => exE P w e fun v => (0 ≤ j ∧ v.cells.length = P.cellsOf e ∧ es[j.toNat]? = some v) ∧ K (.eptr v.cells 0)
  | .aslc b off len esz _,some (_,j,_) => (0 ≤ j ∧ j < len ∧ esz = P.cellsOf e) ∧ K (.ref b (off + j.toNat * esz))
  | _,_ => False
 | _ => False
def indexA (P:Program) (t:TypeId) (x i:AV) (K:AV → Prop):Prop :=
 match P.underlying t with
 | some (.array n e) =>
  match x with
  | .agg cs => idxA n i fun j => match partA P e cs (j * P.cellsOf e) with | some v => K v | none => False
  | _ => False
 | some .string =>
  match x,i.isI with
  | .str s,some (_,j,_) => ∃ c:UInt8,(0 ≤ j ∧ s[j.toNat]? = some c) ∧ K (.int .u8 c.toNat)
  | _,_ => False
 | _ => False
def appendA (P:Program) (n:Nat) (ts:List TypeId) (s x:AV) (d:Nat) (σ:St) (K:St → Prop):Prop :=
 match ts with
 | [t,t2] =>
  match P.underlying t,P.underlying t2 with
  | some (.slice e),some (.slice _) =>
   if P.cellsOf e = 0 ∨ (P.underlying e).isNone ∨ ((zeroA P e).map fun z => z.cells.length) ≠ some (P.cellsOf e) then False else
   withCells σ (P.cellsOf e) x fun nx cx =>
    match s with
    | .slc 0 [] => ((nx + 512) * (5 * P.bytesOf e + 1) ≤ 2 ^ 50 ∧ ones cx = true) ∧
      mkBox n d ⟨e,true,cx⟩ (.aslc (n + d) 0 nx (P.cellsOf e) (isAggT P e)) σ K
    | .slc 2 es => ((es = [] ∨ 0 < nx) ∧ (es.length + nx + 512) * (5 * P.bytesOf e + 1) ≤ 2 ^ 50 ∧ elemsOf (P.cellsOf e) es ∧ ones cx = true ∧ ones (es.flatMap AV.cells) = true) ∧
      mkBox n d ⟨e,true,es.flatMap AV.cells ++ cx⟩ (.aslc (n + d) 0 (es.length + nx) (P.cellsOf e) (isAggT P e)) σ K
    | .aslc b 0 len esz ag => match σ.bx.getD b none with
     | some bx =>
      if bx.arr && decide (esz = P.cellsOf e) && decide (b ≠ n + d) then
       (bx.cs.length = len * esz ∧ (len + nx + 512) * (5 * P.bytesOf e + 1) ≤ 2 ^ 50 ∧ ones cx = true ∧ ones bx.cs = true) ∧
       mkBox n d ⟨e,true,bx.cs ++ cx⟩ (.aslc (n + d) 0 (len + nx) esz ag) { σ with bx:=σ.bx.set b none } K
      else False
     | none => False
    | _ => False
  | _,_ => False
 | _ => False
def divA (op:BinOp) (x y:AV) (K:AV → Prop):Prop :=
 match x.isI,y.isI with
 | some (k,a,l),some (k',b,l') =>
  match op with
  | .quo => if k = k' then (if l' then (if b = 0 then False else K (mkI k (k.wrap (a.tdiv b)) (l && l'))) else b ≠ 0 ∧ K (mkI k (k.wrap (a.tdiv b)) false)) else False
  | .rem => if k = k' then (if l' then (if b = 0 then False else K (mkI k (a.tmod b) (l && l'))) else b ≠ 0 ∧ K (mkI k (a.tmod b) false)) else False
  | .shl => if l' then (if b < 0 then False else K (mkI k (k.wrap (a * 2 ^ (min b.toNat k.bits))) (l && l'))) else 0 ≤ b ∧ K (mkI k (k.wrap (a * 2 ^ (min b.toNat k.bits))) false)
  | .shr => if l' then (if b < 0 then False else K (mkI k (a.fdiv (2 ^ (min b.toNat k.bits))) (l && l'))) else 0 ≤ b ∧ K (mkI k (a.fdiv (2 ^ (min b.toNat k.bits))) false)
  | _ => False
 | _,_ => False

section
variable (P:Program) (S:Specs) (n:Nat)

def nilCmp (P:Program) (op:BinOp) (t:TypeId) (x y:AV):Option (Bool × List AV) :=
 match P.underlying t,isEq op with
 | some (.slice _),some e => match x,y with
  | .slc (_ + 1) es,.slc 0 [] => some (e,es)
  | .slc 0 [],.slc (_ + 1) es => some (e,es)
  | _,_ => none
 | _,_ => none
def ownD (w:Ways) (d:Option Nat):Option Nat:=match d with
 | some d => if w.ow.contains d then some d else none
 | none => none
mutual
def cvOf:AV → Option Value
 | .int k n => some (.int k n)
 | .bool b => some (.bool b)
 | .str s => some (.string s)
 | .agg cs => (cvL cs).map fun l => .agg l.toArray
 | _ => none
def cvL:List AV → Option (List Value)
 | [] => some []
 | x :: r => match cvOf x,cvL r with
  | some v,some l => some (v :: l)
  | _,_ => none
end
def KeyV (P:Program) (kt:TypeId) (c:Value):Prop :=
 match P.underlying kt with
 | some (.struct _) | some (.array _ _) => P.keyTypeAt 2 kt = true ∧ P.tiled 2 kt = true ∧ ∃ l,keyOf P kt c = some l
 | some d => MapKept.IsKey d c
 | none => False
def KeyIs (P:Program) (kt:TypeId) (k:AV):Prop:=∃ c,cvOf k = some c ∧ KeyV P kt c
def KeysOK (P:Program) (kt:TypeId) (M:List AV):Prop:=∀ x ∈ M,∃ k v,x = .agg [k,v] ∧ KeyIs P kt k
def MapGet (z:AV) (M:List AV) (k:AV) (f:Bool) (v:AV):Prop :=
 if f then ∃ i:Nat,M[i]? = some (.agg [k,v]) ∧ ∀ (j:Nat) (v':AV),M[j]? = some (.agg [k,v']) → j = i else (∀ v',.agg [k,v'] ∉ M) ∧ v = z
def MapPut (M:List AV) (k v:AV) (M':List AV):Prop :=
 (∃ (i:Nat) (v0:AV),M[i]? = some (.agg [k,v0]) ∧ (∀ (j:Nat) (v':AV),M[j]? = some (.agg [k,v']) → j = i) ∧ M' = M.set i (.agg [k,v])) ∨ ((∀ v',.agg [k,v'] ∉ M) ∧ M' = M ++ [.agg [k,v]])
def mkMap (n d:Nat) (t:TypeId) (σ:St) (K:St → Prop):Prop :=
 if noRefs (n + d) { sl:=σ.sl.set d .undef,bx:=σ.bx.set (n + d) none } && decide (d < σ.sl.length) && decide (n + d < σ.bx.length) then K { sl:=σ.sl.set d (.map (n + d)),bx:=σ.bx.set (n + d) (some ⟨t,false,[.iface 1000000 (.slc 3 [])]⟩) } else False
def lookupA (P:Program) (t:TypeId) (σ:St) (m k:AV) (ok:Bool) (K:AV → Prop):Prop :=
 match P.underlying t,m with
 | some (.map kt et),.map b => match σ.bx.getD b none,zeroA P et with
  | some x,some z => match x.mp with
   | some es => KeysOK P kt es ∧ KeyIs P kt k.norm ∧ exT P et fun v => ∃ f:Bool,MapGet z.norm es k.norm f v ∧ K (if ok then .tup [v,.bool f] else v)
   | none => False
  | _,_ => False
 | _,_ => False
def putA (P:Program) (t:TypeId) (σ:St) (m k v:AV) (K:St → Prop):Prop :=
 match P.underlying t,m with
 | some (.map kt _),.map b => match σ.bx.getD b none with
  | some x => match x.mp with
   | some es => if (cvOf v.norm).isSome then KeysOK P kt es ∧ KeyIs P kt k.norm ∧ ∃ es':List AV,MapPut es k.norm v.norm es' ∧ K { σ with bx:=σ.bx.set b (some { x with cs:=[.iface 1000000 (.slc 3 es')] }) } else False
   | none => False
  | none => False
 | _,_ => False
def bytesA (s:ByteArray):List AV:=s.data.toList.map fun b => .int .u8 b.toNat
def bytesOf (P:Program) (s d:TypeId) (v:AV):Option AV :=
 match P.underlying s,P.underlying d,v with
 | some .string,some (.slice e),.str b => match P.underlying e with
  | some (.int .u8) => some (.slc 3 (bytesA b))
  | _ => none
 | _,_,_ => none
def aop (o:Oper) (σ:St) (K:St → Prop):Prop :=
 match o.op with
 | .alloc t => match o.dst,zeroA P t with
  | some d,some z => mkBox n d ⟨t,false,z.cells⟩ (.ref (n + d) 0) σ K
  | _,_ => False
 | .box t x => match o.dst with
  | some d => if (ev σ x).solid then mkBox n d ⟨t,false,(ev σ x).cells⟩ (.ref (n + d) 0) σ K else False
  | none => False
 | .buildSlice t len ps =>
  match P.underlying t with
  | some (.slice e) =>
   match zeroA P e with
   | some z =>
    if len * P.cellsOf e ≤ 2 ^ 20 ∧ 0 < P.cellsOf e ∧ z.cells.length = P.cellsOf e ∧ (isAggT P e = false → P.cellsOf e = 1) ∧ (P.underlying e).isSome then
     match fillA (fun i => some (i * P.cellsOf e,P.cellsOf e)) ((List.replicate len z.cells).flatten) (ps.toList.map fun p => (p.1,ev σ p.2)) with
     | some out => if AV.treeL out && ones out then (match ownD S.frs o.dst with
      | some d => mkBox n d ⟨e,true,AV.normL out⟩ (.aslc (n + d) 0 len (P.cellsOf e) (isAggT P e)) σ K
      | none => K (σ.put o.dst (.slc 2 (chunks (P.cellsOf e) (isAggT P e) len (AV.normL out))))) else False
     | none => False
    else False
   | none => False
  | _ => False
 | .makeMap t none => match o.dst,P.underlying t with
  | some d,some (.map _ _) => mkMap n d t σ K
  | _,_ => False
 | .lookup t x k ok => lookupA P t σ (ev σ x) (ev σ k) ok fun v => K (σ.put o.dst v)
 | .mapUpdate t x k v => putA P t σ (ev σ x) (ev σ k) (ev σ v) fun σ => K (σ.put o.dst (.tup []))
 | .load t x => loadA P t σ (ev σ x) fun v => K (σ.put o.dst v)
 | .store t a x => storeA P t σ (ev σ a) (ev σ x) fun σ => K (σ.put o.dst (.tup []))
 | .indexAddr t x i => indexAddrA P S.frs t (ev σ x) (ev σ i) fun v => K (σ.put o.dst v)
 | .index t x i => indexA P t (ev σ x) (ev σ i) fun v => K (σ.put o.dst v)
 | .slice t x lo hi mx => sliceA P t σ (ev σ x) (lo.map (ev σ)) (hi.map (ev σ)) (mx.map (ev σ)) fun v => K (σ.put o.dst v)
 | .convert s d x => match bytesOf P s d (ev σ x) with
  | some v => K (σ.put o.dst v)
  | none => match popA P (ev σ) (.convert s d x) with
   | some v => K (σ.put o.dst v)
   | none => False
 | .makeSlice t l c =>
  match P.underlying t,(ev σ l).isI,(ev σ c).isI,o.dst with
  | some (.slice e),some (_,l,_),some (_,c,_),some d => match zeroA P e with
   | some z => if 0 < P.cellsOf e ∧ z.cells.length = P.cellsOf e ∧ z.tree = true then (0 ≤ l ∧ l ≤ c ∧ (c + 1) * (P.bytesOf e + 1) ≤ 2 ^ 48) ∧
     mkBox n d ⟨e,true,(List.replicate l.toNat z.norm.cells).flatten⟩ (.aslc (n + d) 0 l.toNat (P.cellsOf e) (isAggT P e)) σ K else False
   | none => False
  | _,_,_,_ => False
 | .binOp .quo _ x y _ => divA .quo (ev σ x) (ev σ y) fun v => K (σ.put o.dst v)
 | .binOp .rem _ x y _ => divA .rem (ev σ x) (ev σ y) fun v => K (σ.put o.dst v)
 | .binOp .shl _ x y _ => divA .shl (ev σ x) (ev σ y) fun v => K (σ.put o.dst v)
 | .binOp .shr _ x y _ => divA .shr (ev σ x) (ev σ y) fun v => K (σ.put o.dst v)
 | .binOp op t x y yt => match nilCmp P op t (ev σ x) (ev σ y) with
  | some (e,es) => ∀ b:Bool,(es ≠ [] → b = !e) → K (σ.put o.dst (.bool b))
  | none => match popA P (ev σ) (.binOp op t x y yt) with
   | some v => K (σ.put o.dst v)
   | none => False
 | .call c =>
  match c.callee with
  | .value (.func f) => if S.frs.fr.contains f then callG P S n f (c.args.toList.map (ev σ)) o.dst σ K else callX P S n f (c.args.toList.map (ev σ)) o.dst σ K
  | .value f => match ev σ f with
   | .fn g first caps => callX P S n g (first ++ (c.args.toList.map (ev σ) ++ caps)) o.dst σ K
   | _ => False
  | .invoke r name => match ev σ r with
   | .iface t v => match methodA P t name with
    | some g => callX P S n g (v :: c.args.toList.map (ev σ)) o.dst σ K
    | none => False
   | _ => False
  | .builtin .append => match c.args.toList.map (ev σ),o.dst with
   | [s,x],some d => appendA P n c.argTypes.toList s x d σ K
   | _,_ => False
  | .builtin _ => match popA P (ev σ) (.call c) with
   | some v => K (σ.put o.dst v)
   | none => False
 | op => match popA P (ev σ) op with
  | some v => K (σ.put o.dst v)
  | none => False

def dstsOf (ops:List Oper):List (Option Nat):=ops.map (·.dst)
def aops (dsts:List (Option Nat)):List Oper → St → (St → Prop) → Prop
 | [],σ,K => K σ
 | o :: r,σ,K =>
  match o.guard with
  | none => aop P S n o σ fun σ => aops dsts r σ K
  | some (j,want) =>
   match dsts[j]? with
   | some (some d) =>
    match σ.sl.getD d .undef with
    | .tt => if want then aop P S n o σ fun σ => aops dsts r σ K else aops dsts r (σ.put o.dst (.tup [])) K
    | .ff => if want then aops dsts r (σ.put o.dst (.tup [])) K else aop P S n o σ fun σ => aops dsts r σ K
    | .bool b =>
     if want then br b (aop P S n o (σ.put (some d) .tt) fun σ => aops dsts r σ K) (aops dsts r ((σ.put (some d) .ff).put o.dst (.tup [])) K)
     else br b (aops dsts r ((σ.put (some d) .tt).put o.dst (.tup [])) K) (aop P S n o (σ.put (some d) .ff) fun σ => aops dsts r σ K)
    | .tup [] => aops dsts r (σ.put o.dst (.tup [])) K
    | _ => False
   | _ => False

def addrB:AV → List Nat
 | .ref b _ => [b]
 | _ => []
def argsA (σ:St) (c:Call):Option (List AV) :=
 match c.callee with
 | .value (.func _) => some (c.args.toList.map (ev σ))
 | .value f => match ev σ f with
  | .fn _ first caps => some (first ++ (c.args.toList.map (ev σ) ++ caps))
  | _ => none
 | .invoke r _ => match ev σ r with
  | .iface _ v => some (v :: c.args.toList.map (ev σ))
  | _ => none
 | .builtin _ => none
def snapsA (σ:St) (c:Call):List Nat :=
 match argsA σ c with
 | some l => (AV.aslcsL l).map (·.1)
 | none => []
mutual
def roV (B:List Nat):AV → Bool
 | .lit .. | .tt | .ff | .aslc .. => false
 | .slc m _ => m == 3
 | .ref b _ | .map b => B.contains b
 | .fn _ a b => roL B a && roL B b
 | .iface _ v => roV B v
 | .agg cs | .tup cs => roL B cs
 | _ => true
def roL (B:List Nat):List AV → Bool
 | [] => true
 | x :: r => roV B x && roL B r
end
def reachB (σ:St) (l:List AV):List Nat:=reach (fun b => (σ.box b).map (AV.snapL σ.boxN)) 30 (AV.refsL (AV.snapL σ.boxN l)) []
def roOK (σ:St) (l:List AV) (B:List Nat):Bool:=(AV.aslcsL l).isEmpty && (AV.refsL l).all (fun b => B.contains b) && decide B.Nodup && B.all fun b => match σ.bx.getD b none with
 | some x => !x.arr && roL B x.cs
 | none => false
def calleeA (σ:St) (c:Call):Option FuncId :=
 match c.callee with
 | .value (.func f) => some f
 | .value f => match ev σ f with
  | .fn g _ _ => some g
  | _ => none
 | _ => none
def isRo (w:Ways) (σ:St) (c:Call):Bool :=
 match calleeA σ c with
 | some f => w.ro.contains f
 | none => false
def isWr (w:Ways) (σ:St) (c:Call):Bool :=
 match calleeA σ c with
 | some f => w.ro.contains (f + 999000000)
 | none => false
def wrOK (σ:St) (l:List AV) (B:List Nat):Bool:=(AV.aslcsL l).isEmpty && (AV.refsL l).all (fun b => B.contains b) && decide B.Nodup && B.all fun b => match σ.bx.getD b none with
 | some x => !x.arr && (AV.aslcsL x.cs).isEmpty && (AV.refsL x.cs).all (fun b => B.contains b)
 | none => false
def wrB (w:Ways) (σ:St) (c:Call):List Nat:=if isWr w σ c then (match argsA σ c with
 | some l => reachB σ l
 | none => []) else []
def isFr (frs:Ways) (c:Call):Bool :=
 match c.callee with
 | .value (.func f) => frs.fr.contains f
 | _ => false
def isIl (w:Ways) (σ:St) (c:Call):Bool :=
 match c.callee with
 | .value (.func f) => (w.il.lookup f).isSome
 | .value f => match ev σ f with
  | .fn g _ _ => (w.il.lookup g).isSome
  | _ => false
 | .invoke _ _ => !w.il.isEmpty
 | _ => false
def sliceB:AV → List Nat
 | .aslc b .. => [b]
 | _ => []
def calleeF (c:Call):FuncId:=match c.callee with
 | .value (.func f) => f
 | _ => 0
def frR (P:Program) (c:Call) (args:List AV) (d:Option Nat):Option (List Nat × List Nat) :=
 if (isMut args).isSome then none else
 match carryF P (calleeF c) with
 | some _ => some ([],[])
 | none => match d with
  | some d => some ([],[d])
  | none => none
def frW (n:Nat) (frs:Ways) (c:Call) (d:Option Nat):List Nat:=if isFr frs c then (match d with
 | some d => [n + d]
 | none => []) else []
def appR (args:List AV) (d:Option Nat):Option (List Nat × List Nat) :=
 match args,d with
 | [s,x],some d => some (sliceB s ++ sliceB x,[d])
 | _,_ => none
def appW (n:Nat) (args:List AV) (d:Option Nat):List Nat :=
 match args,d with
 | [s,_],some d => sliceB s ++ [n + d]
 | _,_ => []
def fpR (frs:Ways) (o:Oper) (σ:St):Option (List Nat × List Nat) :=
 match o.op with
 | .alloc _ => match o.dst with
  | some d => some ([],[d])
  | none => none
 | .load _ x => some (addrB (ev σ x),[])
 | .store _ a _ => some (addrB (ev σ a),[])
 | .box .. | .makeSlice .. | .slice .. | .makeMap .. | .lookup .. | .mapUpdate .. => none
 | .buildSlice .. => if (ownD frs o.dst).isSome then none else some ([],[])
 | .binOp op t x y _ => if (nilCmp P op t (ev σ x) (ev σ y)).isSome then none else some ([],[])
 | .call c => if isFr frs c then frR P c (c.args.toList.map (ev σ)) o.dst else if isIl frs σ c then none else match c.callee with
  | .builtin .append => appR (c.args.toList.map (ev σ)) o.dst
  | .builtin _ => some ([],[])
  | _ => match argsA σ c with
   | some l => if (AV.refsL (AV.snapL σ.boxN l)).isEmpty then some ((AV.aslcsL l).map (·.1),[]) else if isRo frs σ c && roOK σ l (reachB σ l) then some (reachB σ l,[]) else if isWr frs σ c && wrOK σ l (reachB σ l) then some (reachB σ l,[]) else none
   | none => some ([],[])
 | _ => some ([],[])
def fpW (frs:Ways) (o:Oper) (σ σ':St):List Nat :=
 match o.op with
 | .alloc _ => match o.dst with
  | some d => [n + d]
  | none => []
 | .store _ a _ => addrB (ev σ a)
 | .call c => match c.callee with
  | .builtin .append => appW n (c.args.toList.map (ev σ)) o.dst
  | _ => ((snapsA σ c).filter fun b => (σ'.bx.getD b none).isNone) ++ (wrB frs σ c ++ frW n frs c o.dst)
 | _ => []
def fpF (d:Option Nat) (W:List Nat) (σ':St):List Nat :=
 (match d with
  | some d => (σ'.sl.getD d .undef).refs
  | none => []) ++ W.flatMap fun b => match σ'.bx.getD b none with
  | some x => x.refs
  | none => []
structure Fp where
 i:Nat
 o:Oper
 R:List Nat
 W:List Nat
 F:List Nat
 rf:List Nat
def apartL (a b:List Nat):Bool:=a.all fun x => !b.contains x
def Fp.fits (ops:Array Oper) (a b:Fp):Bool :=
 a.o.after.toList.all (fun e => !(Region.binds .any e && e.on == b.i)) && apartL (b.F.map (n + ·)) a.rf && (b.o.after.toList.any (fun e => Region.binds .any e && e.on == a.i) ||
  (a.o.apart ops b.o && apartL a.W b.R && apartL b.W a.R && apartL a.W b.W && apartL (a.F.map (n + ·)) b.rf))
def freshB (d:Nat) (σ:St):Bool:=noRefs (n + d) { sl:=σ.sl.set d .undef,bx:=σ.bx.set (n + d) none }
def split (g:Bool) (d:Option Nat) (σ:St) (K:St → Prop):Prop :=
 match g,d with
 | true,some d => match σ.sl.getD d .undef with
  | .bool b => br b (K (σ.put (some d) .tt)) (K (σ.put (some d) .ff))
  | _ => K σ
 | _,_ => K σ
def gop (dsts:List (Option Nat)) (g:Bool) (o:Oper) (σ:St) (K:St → Prop):Prop :=
 match o.guard with
 | none => aop P S n o σ fun σ => split g o.dst σ K
 | some (j,want) =>
  match dsts[j]? with
  | some (some d) =>
   match σ.sl.getD d .undef with
   | .tt => if want then aop P S n o σ fun σ => split g o.dst σ K else K (σ.put o.dst (.tup []))
   | .ff => if want then K (σ.put o.dst (.tup [])) else aop P S n o σ fun σ => split g o.dst σ K
   | .tup [] => K (σ.put o.dst (.tup []))
   | _ => False
  | _ => False
def isGuard (ops:Array Oper) (i:Nat):Bool:=ops.toList.any fun o => match o.guard with
 | some (j,_) => j == i
 | none => false
def forceL:List Nat → (List Nat → Prop) → Prop
 | [],k => k []
 | 0 :: r,k => forceL r fun r => k (0 :: r)
 | (x + 1) :: r,k => forceL r fun r => k ((x + 1) :: r)
def needSeq (w:Ways) (o:Oper):Bool:=match o.op with
 | .box .. | .makeSlice .. | .slice .. | .makeMap .. | .lookup .. | .mapUpdate .. => true
 | .buildSlice .. => (ownD w o.dst).isSome
 | .call c => match c.callee with
  | .value (.func f) => (w.il.lookup f).isSome
  | _ => false
 | _ => false
def topo (w:Ways) (ops:Array Oper):Nat → List Nat → List Nat → List Nat
 | 0,_,done => done.reverse
 | k + 1,rem,done => match (rem.find? (fun i => match ops[i]? with
   | some o => !needSeq w o && o.after.toList.all fun e => !Region.binds .any e || done.contains e.on
   | none => false)).or (rem.find? (fun i => match ops[i]? with
   | some o => o.after.toList.all fun e => !Region.binds .any e || done.contains e.on
   | none => false)) with
  | some i => topo w ops k (rem.filter fun j => !(j == i)) (i :: done)
  | none => done.reverse
def dops (ops:Array Oper):List Nat → List Fp → St → (St → Prop) → Prop
 | [],_,σ,K => K σ
 | i :: r,past,σ,K =>
  match ops[i]? with
  | none => False
  | some o => match fpR P S.frs o σ with
   | none => False
   | some (R,F) =>
    if o.after.toList.all (fun e => decide (e.on < ops.size) && !(e.on == i)) then
     gop P S n (dstsOf ops.toList) (isGuard ops i) o σ fun σ' =>
      forceL R fun R => forceL (fpW n S.frs o σ σ') fun W => forceL F fun F => forceL (fpF o.dst W σ') fun rf =>
       if past.all (fun q => q.fits n ops ⟨i,o,R,W,F,rf⟩) then dops ops r (⟨i,o,R,W,F,rf⟩ :: past) σ' K else False
    else False
def certOK (ops:Array Oper):List Nat → List Nat → Bool
 | [],_ => true
 | x :: r,seen => (seen.any fun y => match ops[y]? with
   | some o => o.after.toList.any fun e => Region.binds .any e && e.on == x
   | none => false) && certOK ops r (x :: seen)
def seqOK (ops:Array Oper):List Nat → List Nat → Bool
 | [],_ => true
 | l :: r,seen => (match ops[l]? with
  | some o => o.after.toList.all fun e => decide (e.on < ops.size) && seen.contains e.on
  | none => false) && certOK ops seen [l] && seqOK ops r (l :: seen)
def cutAt (w:Ways) (ops:Array Oper):List Nat → List Nat × List Nat
 | [] => ([],[])
 | i :: r => if (match ops[i]? with
   | some o => needSeq w o
   | none => false) then ([],i :: r) else (i :: (cutAt w ops r).1,(cutAt w ops r).2)
def finalOK (ops:Array Oper) (pre fin:List Nat):Bool:=seqOK ops fin pre.reverse && pre.all fun x => match ops[x]? with
 | some o => o.after.toList.all fun e => !(Region.binds .any e && fin.contains e.on)
 | none => false
def seqK (ops:Array Oper):List Nat → (St → Prop) → St → Prop
 | [],K,σ => K σ
 | l :: r,K,σ => match ops[l]? with
  | some o => gop P S n (dstsOf ops.toList) (isGuard ops l) o σ (seqK ops r K)
  | none => False
def drawA (ops:Array Oper) (ord:List Nat) (σ:St) (K:St → Prop):Prop :=
 if (cutAt S.frs ops ord).2.isEmpty then dops P S n ops ord [] σ K else
 forceL (cutAt S.frs ops ord).1 fun pre => forceL (cutAt S.frs ops ord).2 fun fin =>
  if finalOK ops pre fin then dops P S n ops pre [] σ (seqK P S n ops fin K) else False
structure MapA where
 sl:List Nat
 es:List (Bool × AV)
def boolMap (P:Program) (t:TypeId):Bool:=match P.underlying t with
 | some (.map k _) => match P.underlying k with
  | some .bool => true
  | _ => false
 | _ => false
def makesMap (P:Program) (ops:List Oper):Bool:=ops.any fun o => match o.op with
 | .makeMap t _ => boolMap P t
 | _ => false
def mfree (M:MapA):Option Nat → Bool
 | some d => !M.sl.contains d
 | none => true
def mpopA (o:Oper) (M:MapA) (σ:St) (K:MapA → St → Prop):Prop :=
 if mfree M o.dst then match popA P (ev σ) o.op with
  | some v => K M (σ.put o.dst v)
  | none => False
 else False
def mgetA (M:MapA) (d:Option Nat) (b:Bool) (σ:St) (K:MapA → St → Prop):Prop :=
 match M.es.lookup b with
 | some v => K M (σ.put d v)
 | none => False
def mopA (o:Oper) (M:MapA) (σ:St) (K:MapA → St → Prop):Prop :=
 match o.op with
 | .load t x => if mfree M o.dst then loadA P t σ (ev σ x) fun v => K M (σ.put o.dst v) else False
 | .insert t x k v => match x,(ev σ k).isB with
  | .tmp m,some b => if M.sl.contains m && boolMap P t && (M.es.lookup b).isNone && mfree M o.dst then K ⟨M.sl,M.es ++ [(b,ev σ v)]⟩ (σ.put o.dst (.tup [])) else False
  | _,_ => False
 | .lookup t x k ok => match x,(ev σ k).isB with
  | .tmp m,some b => if !ok && M.sl.contains m && boolMap P t && mfree M o.dst then br b (mgetA M o.dst true σ K) (mgetA M o.dst false σ K) else False
  | _,_ => False
 | .move x => match x,o.dst with
  | .tmp m,some d => if M.sl.contains m then (if decide (d < σ.sl.length) then K ⟨d :: M.sl,M.es⟩ (σ.put (some d) .undef) else False) else mpopA P o M σ K
  | _,_ => mpopA P o M σ K
 | _ => mpopA P o M σ K
def aopsM:List Oper → Option MapA → St → (St → Prop) → Prop
 | [],_,σ,K => K σ
 | o :: r,M,σ,K =>
  if o.guard.isSome then False else
  match M with
  | none => match o.op,o.dst with
   | .makeMap t none,some d => if boolMap P t && decide (d < σ.sl.length) then aopsM r (some ⟨[d],[]⟩) (σ.put (some d) .undef) K else False
   | .makeMap _ _,_ => False
   | _,_ => aop P S n o σ fun σ => aopsM r none σ K
  | some M => mopA P o M σ fun M σ => aopsM r (some M) σ K
def allocsOf (w:Ways) (ops:Array Oper):List Nat:=ops.toList.filterMap fun o => match o.op with
 | .alloc _ => o.dst
 | .call c => match c.callee with
  | .builtin .append => o.dst
  | _ => if isFr w c then o.dst else none
 | _ => none
def ordOK (ops:Array Oper) (ord:List Nat):Bool:=(List.range ops.size).all (fun i => ord.contains i) && decide ord.Nodup && ord.length == ops.size && ord.all (fun i => decide (i < ops.size))

def clean (keep:List Nat) (σ:St):St:={ σ with sl:=mapI σ.sl fun i v => if keep.contains i then v else .undef }

mutual
def forceV:AV → (AV → Prop) → Prop
 | .undef,k => k .undef
 | .tt,k => k .tt
 | .ff,k => k .ff
 | .bool b,k => k (.bool b)
 | .lit t n,k => k (.lit t n)
 | .int t n,k => k (.int t n)
 | .str s,k => k (.str s)
 | .nilp,k => k .nilp
 | .eptr cs off,k => forceVs cs fun cs => k (.eptr cs off)
 | .ref b off,k => k (.ref b off)
 | .slc m es,k => k (.slc m es)
 | .aslc b off len esz ag,k => k (.aslc b off len esz ag)
 | .fn f a c,k => forceVs a fun a => forceVs c fun c => k (.fn f a c)
 | .nilfn,k => k .nilfn
 | .iface t v,k => forceV v fun v => k (.iface t v)
 | .nilif,k => k .nilif
 | .agg cs,k => forceVs cs fun cs => k (.agg cs)
 | .tup vs,k => forceVs vs fun vs => k (.tup vs)
 | .map b,k => k (.map b)
 | .nilmap,k => k .nilmap
 | .yld l,k => k (.yld l)
def forceVs:List AV → (List AV → Prop) → Prop
 | [],k => k []
 | x :: r,k => forceV x fun x => forceVs r fun r => k (x :: r)
end
def forceSl (keep:List Nat):Nat → List AV → (List AV → Prop) → Prop
 | _,[],k => k []
 | i,x :: r,k => if keep.contains i then forceV x fun x => forceSl keep (i + 1) r fun r => k (x :: r) else forceSl keep (i + 1) r fun r => k (.undef :: r)
def forceBx:List (Option Bx) → (List (Option Bx) → Prop) → Prop
 | [],k => k []
 | none :: r,k => forceBx r fun r => k (none :: r)
 | some ⟨t,true,cs⟩ :: r,k => forceBx r fun r => k (some ⟨t,true,cs⟩ :: r)
 | some ⟨t,false,cs⟩ :: r,k => forceVs cs fun cs => forceBx r fun r => k (some ⟨t,false,cs⟩ :: r)
def cleanK (keep:List Nat) (σ:St) (K:St → Prop):Prop:=forceSl keep 0 σ.sl fun sl => forceBx σ.bx fun bx => K ⟨sl,bx⟩
inductive Ex where
 | normal
 | exit (id:Nat)
 | ret
def relax (v v':AV):Prop:=v' = .undef ∨ v' = v ∨ v' = v.norm ∨ ((v = .slc 0 [] ∨ v = .slc 2 []) ∧ ∃ b esz ag,v' = .aslc b 0 0 esz ag)
def relaxN (v v':AV):Prop:=v' = .undef ∨ v' = v ∨ v' = v.norm
structure Weaker (n:Nat) (σ σ':St):Prop where
 ex:∃ h:Nat → Option Nat,(∀ b i,h b = some i → i < n → b = i) ∧ True ∧ (∀ b c i,h b = some i → h c = some i → b = c) ∧
  (∀ t,relax ((σ.sl.getD t .undef).ren h) (σ'.sl.getD t .undef)) ∧
  (∀ b' x',σ'.bx.getD b' none = some x' → (∃ b x,h b = some b' ∧ σ.bx.getD b none = some x ∧ x'.arr = x.arr ∧ x'.cs.length = x.cs.length ∧ mapC x'.cs = mapC x.cs ∧
   ∀ j,if x.arr then relaxN (x.cs.getD j .undef) (x'.cs.getD j .undef) else relax ((x.cs.getD j .undef).ren h) (x'.cs.getD j .undef)) ∨ (x'.cs = [] ∧ n ≤ b' ∧ ∀ b,h b ≠ some b'))
 len:σ'.sl.length = σ.sl.length

def iterN (n:Nat) (f:St → (Ex → St → Prop) → Prop):Nat → St → (Ex → St → Prop) → Prop
 | 0,_,_ => False
 | m + 1,σ,K => f σ fun e σ => match e with
  | .normal => ∃ σ',Weaker n σ σ' ∧ iterN n f m σ' K
  | e => K e σ
def iterK (f:St → (Ex → St → Prop) → Prop):Nat → St → (Ex → St → Prop) → Prop
 | 0,_,_ => False
 | m + 1,σ,K => f σ fun e σ => match e with
  | .normal => iterK f m σ K
  | e => K e σ
def firstId:Code → Option Nat
 | .region id _ _ => some id
 | .seq a b => match firstId a with
  | some i => some i
  | none => firstId b
 | .cond _ a b => match firstId a with
  | some i => some i
  | none => firstId b
 | .block _ b | .loop b | .scope b => firstId b
 | _ => none
def dstsC:Code → List Nat
 | .region _ ops _ => ops.toList.filterMap (·.dst)
 | .seq a b | .cond _ a b => dstsC a ++ dstsC b
 | .block _ b | .loop b | .scope b => dstsC b
 | .rangeFunc g ps a b => (match g with | .tmp t => [t] | _ => []) ++ (ps.toList ++ (dstsC a ++ dstsC b))
 | _ => []
def Ctl.dsts (ctl:Ctl) (c:Code):List Nat:=dstsC c ++ (ctl.fz.filter fun q => decide (q.2 < 1000000000)).map (fun q => q.2 % 1000000)
def Ctl.fzAt (ctl:Ctl) (id:Nat):List Nat:=(ctl.fz.filter fun q => q.1 == id).map (·.2)
def elemsA (esz:Nat) (ag:Bool) (es:List AV):Prop:=∀ v ∈ es,if ag then ∃ c,v = .agg c ∧ c.length = esz else v.cells = [v]
def nameK (nm:Bool) (esz:Nat) (ag:Bool) (len:Nat) (cs:List AV) (K:List AV → Prop):Prop :=
 if nm then ∃ es:List AV,(es.length = len ∧ es.flatMap AV.cells = cs ∧ elemsA esz ag es) ∧ K es else K (chunks esz ag len cs)
def freeze1 (nm:Bool) (n t:Nat) (σ:St) (K:St → Prop):Prop :=
 match σ.sl.getD t .undef with
 | .aslc b off len esz ag => match σ.boxN b with
  | some cs => if n ≤ b then withOK σ.boxN [(b,off + len * esz,esz,ag)] (nameK nm esz ag len (cs.drop off) fun es => K ⟨σ.sl.set t (.slc 3 es),σ.bx.set b none⟩) else False
  | none => False
 | _ => K σ
def split1 (k t:Nat) (σ:St) (K:St → Prop):Prop :=
 match σ.sl.getD t .undef with
 | .int kd j => (0 ≤ j ∧ j < k) ∧ selN j (fun i => K { σ with sl:=σ.sl.set t (.lit kd i) }) k
 | _ => K σ
def freezeC (nm:Bool) (n off c:Nat) (σ:St) (K:St → Prop):Prop :=
 match σ.bx.getD c none with
 | some x => if x.arr then K σ else match x.cs.getD off .undef with
  | .aslc b o len esz ag => match σ.boxN b with
   | some cs => if (mapC x.cs).isNone && decide (n ≤ b) && !(b == c) then withOK σ.boxN [(b,o + len * esz,esz,ag)] (nameK nm esz ag len (cs.drop o) fun es => K ⟨σ.sl,(σ.bx.set b none).set c (some { x with cs:=x.cs.set off (.slc 3 es) })⟩) else False
   | none => False
  | _ => K σ
 | none => K σ
def fzBox (n t:Nat) (σ:St):Nat:=if t < 3000000000 then n + t % 1000000 else (reach σ.boxV 30 (AV.refs (σ.sl.getD (t % 1000000) .undef)) []).getD (t / 1000000000 - 3) 0
def freezeK (n:Nat):List Nat → St → (St → Prop) → Prop
 | [],σ,K => K σ
 | t :: r,σ,K => if t < 1000000 then freeze1 false n t σ fun σ => freezeK n r σ K else if t < 1000000000 then (if t / 1000000 = 999 then freeze1 true n (t % 1000000) σ fun σ => freezeK n r σ K else split1 (t / 1000000) (t % 1000000) σ fun σ => freezeK n r σ K) else if t < 2000000000 then freezeC false n (t / 1000000 - 1000) (n + t % 1000000) σ fun σ => freezeK n r σ K else freezeC true n (t / 1000000 % 1000) (fzBox n t σ) σ fun σ => freezeK n r σ K
def patOf (l:List Pat) (i:Option Nat):Option Pat :=
 match i with
 | some i => l.find? fun p => p.id == i
 | none => none
mutual
def fitV:AV → AV → Bool
 | .int k _,.int k' _ => decide (k = k')
 | .bool _,.bool _ => true
 | .str _,.str _ => true
 | .slc _ _,.slc 3 _ => true
 | .tup _,.agg _ => true
 | .agg cs,.agg cs' => fitL cs cs'
 | .iface t v,.iface t' v' => decide (t = t') && fitV v v'
 | .undef,v => v.tree
 | _,_ => false
def fitL:List AV → List AV → Bool
 | [],[] => true
 | x :: r,y :: s => fitV x y && fitL r s
 | _,_ => false
end
mutual
def allV:AV → (AV → Prop) → Prop
 | .int k _,K => ∀ n:Int,K (.int k n)
 | .bool _,K => ∀ b:Bool,K (.bool b)
 | .str _,K => ∀ s:ByteArray,K (.str s)
 | .slc _ _,K => ∀ es:List AV,K (.slc 3 es)
 | .tup _,K => ∀ cs:List AV,K (.agg cs)
 | .agg cs,K => allL cs fun cs => K (.agg cs)
 | .iface t v,K => allV v fun v => K (.iface t v)
 | .undef,K => ∀ v:AV,v.tree = true → K v
 | _,_ => True
def allL:List AV → (List AV → Prop) → Prop
 | [],K => K []
 | x :: r,K => allV x fun v => allL r fun l => K (v :: l)
end
def allS:Nat → (List (List AV) → Prop) → Prop
 | 0,K => K []
 | m + 1,K => ∀ es:List AV,allS m fun l => K (es :: l)
def hApp (ps:List (Nat × Nat)) (ts:List Nat) (b:Nat):Option Nat :=
 match ps.lookup b with
 | some i => some i
 | none => if ts.contains b then none else some b
def self (h:Nat → Option Nat) (b:Nat):Bool :=
 match h b with
 | some i => i == b
 | none => false
def AV.fixed (h:Nat → Option Nat) (v:AV):Bool:=v.refs.all (self h)
def appSrc (n:Nat) (p:Pat) (σ:St):List (Nat × Nat):=p.app.filterMap fun q => match σ.sl.getD q.1 .undef with
 | .aslc b _ _ _ _ => some (b,n + q.1)
 | _ => none
def Pat.hOf (n:Nat) (p:Pat) (σ:St):Nat → Option Nat:=hApp (appSrc n p σ) (p.app.map fun q => n + q.1)
def headSl (P:Program) (n:Nat) (p:Pat) (gs:List AV) (ls:List (List AV)):List (Nat × AV) :=
 (p.gen.map (·.1)).zip gs ++ List.zipWith (fun q es => (q.1,.aslc (n + q.1) 0 es.length (P.cellsOf q.2) (isAggT P q.2))) p.app ls
def headBx (n:Nat) (p:Pat) (σ:St) (ls:List (List AV)) (bs:List AV):List (Nat × Bx) :=
 List.zipWith (fun q es => (n + q.1,⟨q.2,true,es.flatMap AV.cells⟩)) p.app ls ++
 List.zipWith (fun q v => (q.1,match σ.bx.getD q.1 none with
  | some x => { x with cs:=v.cells }
  | none => ⟨0,false,v.cells⟩)) p.bgen bs
def headSt (P:Program) (n:Nat) (keep D:List Nat) (p:Pat) (σ:St) (gs:List AV) (ls:List (List AV)) (bs:List AV):St :=
 ⟨mapI σ.sl fun t v => if keep.contains t then (match (headSl P n p gs ls).lookup t with
   | some v => v
   | none => if D.contains t then .undef else v) else .undef,
  mapI σ.bx fun b x => match (headBx n p σ ls bs).lookup b with
   | some y => some y
   | none => if (appSrc n p σ).any (fun q => q.1 == b) then none else x⟩
def headV (gs:List AV) (ls:List (List AV)) (bs:List AV):List AV:=gs ++ (ls.map (AV.slc 3) ++ bs)
def headK (P:Program) (n:Nat) (keep D:List Nat) (p:Pat) (σ:St) (C:List AV → St → Prop):Prop :=
 allL (p.gen.map (·.2)) fun gs => allS p.app.length fun ls => allL (p.bgen.map (·.2)) fun bs => C (headV gs ls bs) (headSt P n keep D p σ gs ls bs)
def genVals (σ:St):List (Nat × AV) → Option (List AV)
 | [] => some []
 | (t,sk) :: r => if (σ.sl.getD t .undef).tree && fitV sk (σ.sl.getD t .undef).norm then (genVals σ r).map ((σ.sl.getD t .undef).norm :: ·) else none
def bgenVals (σ0 σ:St):List (Nat × AV) → Option (List AV)
 | [] => some []
 | (b,sk) :: r => match σ0.bx.getD b none,σ.bx.getD b none with
  | some x,some y => if x.arr == y.arr && (x.arr || AV.treeL y.cs) && fitV sk (.agg (AV.normL y.cs)) then (bgenVals σ0 σ r).map (.agg (AV.normL y.cs) :: ·) else none
  | _,_ => none
def appVals (P:Program) (σ:St):List (Nat × TypeId) → (List (List AV) → Prop) → Prop
 | [],C => C []
 | (t,e) :: r,C => match σ.sl.getD t .undef with
  | .slc 0 [] | .slc 2 [] => appVals P σ r fun l => C ([] :: l)
  | .aslc b off len esz ag => match σ.bx.getD b none with
   | some x => if x.arr && off == 0 && esz == P.cellsOf e && ag == isAggT P e then ∃ es:List AV,(es.length = len ∧ es.flatMap AV.cells = x.cs) ∧ appVals P σ r fun l => C (es :: l) else False
   | none => False
  | _ => False
def keptBx (entry:Bool) (h:Nat → Option Nat) (skip:Nat → Bool) (σ:St):Nat → List (Option Bx) → Prop → Prop
 | _,[],C => C
 | b,none :: r,C => keptBx entry h skip σ (b + 1) r C
 | b,some x :: r,C => if skip b then keptBx entry h skip σ (b + 1) r C else
  match σ.bx.getD b none with
  | some y => if y.arr == x.arr && self h b && (x.arr || x.cs.all (AV.fixed h)) then
    if entry then keptBx entry h skip σ (b + 1) r C else y.cs = x.cs ∧ keptBx entry h skip σ (b + 1) r C
   else False
  | none => False
def headOK (n:Nat) (keep D:List Nat) (p:Pat) (σ0 σ:St):Bool :=
 decide ((p.app.map (·.1)).Nodup) && decide (((appSrc n p σ).map (·.1)).Nodup) &&
 p.bgen.all (fun q => self (p.hOf n σ) q.1) &&
 keep.all (fun t => D.contains t || (σ0.sl.getD t .undef).fixed (p.hOf n σ))
def patIn (D:List Nat) (p:Pat):Bool:=(p.gen.map (·.1) ++ p.app.map (·.1)).all (fun t => D.contains t)
def toHead (P:Program) (n:Nat) (keep D:List Nat) (p:Pat) (entry:Bool) (σ0 σ:St) (C:List AV → Prop):Prop :=
 if headOK n keep D p σ0 σ then
  keptBx entry (p.hOf n σ) (fun b => (p.bgen.map (·.1)).contains b || (p.app.map fun q => n + q.1).contains b || (appSrc n p σ0).any (fun q => q.1 == b)) σ 0 σ0.bx <|
  match genVals σ p.gen,bgenVals σ0 σ p.bgen with
  | some gs,some bs => appVals P σ p.app fun ls => C (headV gs ls bs)
  | _,_ => False
 else False
def cellAt (σ:St) (b off:Nat):AV:=match σ.bx.getD b none with
 | some x => x.cs.getD off .undef
 | none => .undef
def setCell1 (bx:List (Option Bx)) (b off:Nat) (v:AV):List (Option Bx):=match bx.getD b none with
 | some x => bx.set b (some { x with cs:=x.cs.set off v })
 | none => bx
def lift1 (q:Nat × Nat × TypeId) (σ:St):St:=⟨σ.sl ++ [cellAt σ q.1 q.2.1],setCell1 σ.bx q.1 q.2.1 .undef⟩
def liftC:List (Nat × Nat × TypeId) → St → St
 | [],σ => σ
 | q :: r,σ => liftC r (lift1 q σ)
def drop1 (q:Nat × Nat × TypeId) (τ:St):St:=⟨τ.sl.take (τ.sl.length - 1),setCell1 τ.bx q.1 q.2.1 (τ.sl.getD (τ.sl.length - 1) .undef)⟩
def dropC:List (Nat × Nat × TypeId) → St → St
 | [],τ => τ
 | q :: r,τ => drop1 q (dropC r τ)
def capSl (L:Nat) (cap:List (Nat × Nat × TypeId)):List Nat:=(List.range cap.length).map (L + ·)
def Pat.up (L:Nat) (p:Pat):Pat:={ p with app:=p.app ++ List.zipWith (fun t q => (t,q.2.2)) (capSl L p.cap) p.cap }
def capOK (h:Nat → Option Nat):List (Nat × Nat × TypeId) → St → Bool
 | [],_ => true
 | q :: r,σ => (match σ.bx.getD q.1 none with
  | some x => !x.arr && (mapC x.cs).isNone && decide (q.2.1 < x.cs.length)
  | none => false) && self h q.1 && capOK h r (lift1 q σ)
def toHeadC (P:Program) (n:Nat) (keep D:List Nat) (p:Pat) (entry:Bool) (σ0 σ:St) (C:List AV → Prop):Prop :=
 let L:=σ0.sl.length
 if capOK ((p.up L).hOf n (liftC p.cap σ)) p.cap σ then toHead P n (keep ++ capSl L p.cap) (D ++ capSl L p.cap) (p.up L) entry (liftC p.cap σ0) (liftC p.cap σ) C else False
def headKC (P:Program) (n:Nat) (keep D:List Nat) (p:Pat) (σ:St) (C:List AV → St → Prop):Prop :=
 let L:=σ.sl.length
 headK P n (keep ++ capSl L p.cap) (D ++ capSl L p.cap) (p.up L) (liftC p.cap σ) fun vs τ => C vs (dropC p.cap τ)
def isMapB (σ:St) (b:Nat):Bool:=match σ.bx.getD b none with
 | some x => x.mp.isSome
 | none => false
def bname (n:Nat) (σ:St) (c:Nat):Nat :=
 if c < 1000000 then n + c else if c < 2000000 then c - 1000000 else if c < 3000000 then (match σ.sl.getD (c - 2000000) .undef with
  | .ref b _ => b
  | .aslc b .. => b
  | _ => 1000000) else ((reach σ.boxV 30 (AV.refs (σ.sl.getD (c - 3000000) .undef)) []).find? (isMapB σ)).getD 1000000
def Pat.res (n:Nat) (σ:St) (p:Pat):Pat:={ p with bgen:=p.bgen.map fun q => (bname n σ q.1,q.2),cap:=p.cap.map fun q => (bname n σ q.1,q.2) }
def loopK (P:Program) (n:Nat) (keep D:List Nat) (p:Pat) (f:St → (Ex → St → Prop) → Prop) (σ:St) (K:Ex → St → Prop):Prop :=
 if patIn D p then ∃ I:Nat → List AV → Prop,toHeadC P n keep D p true σ σ (fun vs => ∃ m,I m vs) ∧
  ∀ m:Nat,headKC P n keep D p σ fun vs τ => I m vs → f τ fun e σ1 => match e with
   | .normal => toHeadC P n keep D p false σ σ1 fun vs => ∃ k,k < m ∧ I k vs
   | e => K e σ1
 else False
def joinK (P:Program) (n:Nat) (keep D:List Nat) (p:Pat) (f g:St → (Ex → St → Prop) → Prop) (σ:St) (K:Ex → St → Prop):Prop :=
 if patIn D p then ∃ J:List AV → Prop,(f σ fun e σ1 => match e with
   | .normal => toHeadC P n keep D p false σ σ1 J
   | e => K e σ1) ∧ headKC P n keep D p σ fun vs τ => J vs → g τ K
 else False
def setPs (sl:List AV):List Nat → List AV → List AV
 | p :: ps,x :: xs => setPs (sl.set p x) ps xs
 | _,_ => sl
def St.more (σ:St) (k:Nat):St:=⟨σ.sl,σ.bx ++ List.replicate k none⟩
def noRange:Code → Bool
 | .rangeFunc .. => false
 | .seq a b | .cond _ a b => noRange a && noRange b
 | .block _ b | .loop b | .scope b => noRange b
 | _ => true
def slotOf:Operand → List Nat
 | .tmp t => [t]
 | _ => []
def rangeA (P:Program) (S:Specs) (n:Nat) (keep cl:List Nat) (p:Pat) (g:Operand) (ps:List Nat) (f:St → (Ex → St → Prop) → Prop) (σ:St) (K:Ex → St → Prop):Prop :=
 match ev σ g with
 | .fn gf [] caps =>
  match (reach σ.box 30 (AV.refsL caps) []).mapM (fun b => σ.bx.getD b none) with
  | some bs =>
   if bs.all (fun x => !x.arr && (AV.aslcsL x.cs).isEmpty) && (AV.aslcsL caps).isEmpty && decide (reach σ.box 30 (AV.refsL caps) []).Nodup && decide (p.yl.length = ps.length) && patIn [] p then
    ∃ xs:List (List AV),S.seq gf (AV.normL (AV.renL (idx · (reach σ.box 30 (AV.refsL caps) [])) caps)) (bs.map fun x => AV.normL (AV.renL (idx · (reach σ.box 30 (AV.refsL caps) [])) x.cs)) xs ∧
     (∀ x ∈ xs,fitL p.yl x = true ∧ AV.treeL x = true) ∧
     (let σ0:St:=⟨(slotOf g ++ cl).foldl (fun l t => l.set t .undef) σ.sl,mapI σ.bx fun b x => if (reach σ.box 30 (AV.refsL caps) []).contains b then none else x⟩
      let p:=p.res n σ0
      ∃ I:Nat → List AV → Prop,toHeadC P n keep [] p true σ0 σ0 (I 0) ∧
      (∀ i:Nat,allL p.yl fun x => xs[i]? = some x → headKC P n keep [] p σ0 fun vs τ => I i vs →
       if allLive τ && decide (n ≤ τ.bx.length) then f ⟨setPs τ.sl ps x,τ.bx ++ List.replicate τ.sl.length none⟩ fun e σ1 => if backOK n τ.bx σ1.bx then (match e with
        | .normal => toHeadC P n keep [] p false σ0 ⟨τ.sl,σ1.bx⟩ (I (i + 1))
        | e => K e ⟨τ.sl,σ1.bx⟩) else False
       else False) ∧
      headKC P n keep [] p σ0 fun vs τ => I xs.length vs → K .normal τ)
   else False
  | none => False
 | _ => False
end
def awpR (P:Program) (S:Specs) (ctl:Ctl):Code → Nat → St → (Ex → St → Prop) → Prop
 | .skip,_,σ,K => K .normal σ
 | .region id ops false,n,σ,K => freezeK n (ctl.fzAt id) σ fun σ => if makesMap P ops.toList then aopsM P S n ops.toList none σ fun σ => cleanK ctl.keep σ (K .normal) else aops P S n (dstsOf ops.toList) ops.toList σ fun σ => cleanK ctl.keep σ (K .normal)
 | .region id ops true,n,σ,K => freezeK n (ctl.fzAt id) σ fun σ => forceL (topo S.frs ops ops.size (List.range ops.size) []) fun ord => if (allocsOf S.frs ops).all (fun d => freshB n d σ) && ordOK ops ord then drawA P S n ops ord σ fun σ => cleanK ctl.keep σ (K .normal) else False
 | .seq a b,n,σ,K => match patOf ctl.joins (firstId b) with
  | some p => joinK P n ctl.keep (ctl.dsts a) (p.res n σ) (awpR P S ctl a n) (awpR P S ctl b n) σ K
  | none => awpR P S ctl a n σ fun e σ => match e with
   | .normal => awpR P S ctl b n σ K
   | e => K e σ
 | .cond c a b,n,σ,K => match ev σ c with
  | .tt => awpR P S ctl a n σ K
  | .ff => awpR P S ctl b n σ K
  | .bool x => br x (awpR P S ctl a n σ K) (awpR P S ctl b n σ K)
  | _ => False
 | .block id b,n,σ,K => awpR P S ctl b n σ fun e σ => match e with
  | .exit i => if i = id then K .normal σ else K (.exit i) σ
  | e => K e σ
 | .loop b,n,σ,K => match patOf ctl.loops (firstId b) with
  | some p => loopK P n ctl.keep (ctl.dsts b) (p.res n σ) (awpR P S ctl b n) σ K
  | none => iterK (awpR P S ctl b n) 8 σ K
 | .exit id,_,σ,K => K (.exit id) σ
 | .ret,_,σ,K => K .ret σ
 | .rangeFunc g ps a b,n,σ,K => match patOf ctl.loops (firstId b) with
  | some p => if noRange a && noRange b then rangeA P S n ctl.keep ((ctl.fz.filter fun q => decide (q.2 < 1000000000)).map fun q => q.2 % 1000000) p g ps.toList (fun τ K' => awpR P S ctl a (τ.bx.length - τ.sl.length) τ fun e σa => match e with
    | .normal => if allLive σa && (List.range (τ.bx.length - τ.sl.length)).all (fun b => live τ.bx b == live σa.bx b) then awpR P S ctl b σa.bx.length (σa.more (σa.sl.length + 8)) K' else False
    | _ => False) σ K else False
  | none => False
 | _,_,_,_ => False
abbrev awp (P:Program) (S:Specs) (n:Nat) (ctl:Ctl) (c:Code) (σ:St) (K:Ex → St → Prop):Prop:=awpR P S ctl c n σ K
section
variable (P:Program) (S:Specs) (n:Nat)

mutual
def AV.sub (fr:Nat → Nat → AV) (fa:Nat → Nat → Nat → Nat → Bool → AV):AV → AV
 | .ref b off => fr b off
 | .aslc b off len esz ag => fa b off len esz ag
 | .map b => match fr b 0 with
  | .ref i _ => .map i
  | _ => .undef
 | .fn g a b => .fn g (AV.subL fr fa a) (AV.subL fr fa b)
 | .iface t v => .iface t (v.sub fr fa)
 | .agg cs => .agg (AV.subL fr fa cs)
 | .tup cs => .tup (AV.subL fr fa cs)
 | v => v
def AV.subL (fr:Nat → Nat → AV) (fa:Nat → Nat → Nat → Nat → Bool → AV):List AV → List AV
 | [] => []
 | x :: r => x.sub fr fa :: AV.subL fr fa r
end
def frzR (m:Nat) (σ:St) (g:AV → AV) (b off:Nat):AV :=
 if b < m then .ref b off else
  match σ.bx.getD b none with
  | some x => if x.arr || (mapC x.cs).isSome then .undef else if AV.treeL (x.cs.map g) then .eptr (AV.normL (x.cs.map g)) off else .undef
  | none => .undef
def frzN (m:Nat) (σ:St):Nat → AV → AV
 | 0 => AV.sub (fun b off => if b < m then .ref b off else .undef) (fun _ _ _ _ _ => .undef)
 | k + 1 => AV.sub (frzR m σ (frzN m σ k)) (fun _ _ _ _ _ => .undef)
def frz (m:Nat) (σ:St):AV → AV :=
 AV.sub (frzR m σ (frzN m σ 3))
  (fun b off len esz ag => match σ.boxN b with
   | some cs => if b < m then .undef else .slc 3 (chunks esz ag len (cs.drop off))
   | none => .undef)
def keepB (m b:Nat):Option Nat:=if b < m then some b else none
def resA (σ:St):ResultVar → Option AV
 | .tmp t => some (σ.sl.getD t .undef)
 | .cell a t => match σ.sl.getD a .undef with
  | .ref b off => match σ.box b with
   | some cs => if (mapC cs).isSome then none else partA P t cs off
   | none => none
  | .eptr cs off => partA P t cs off
  | _ => none
def tupOf:List AV → AV
 | [v] => v
 | vs => .tup vs
def retA (fn:Func) (σ:St) (Q:AV → List (List AV) → Prop):Prop :=
 match fn.results.toList.mapM (resA P σ) with
 | some vs =>
  match (List.range n).mapM σ.box with
  | some O => if (O.all (fun cs => keepsMap cs (cs.map (frz n σ))) && (List.range n).all (fun b => match σ.bx.getD b none with | some x => !x.arr | none => true)) = false then False else withOK σ.boxN (AV.aslcsL vs ++ AV.aslcsL (O.flatMap id)) <| Q (((frz n σ (tupOf vs)).ren (keepB n)).norm) (O.map fun cs => AV.normL (AV.renL (keepB n) (cs.map (frz n σ))))
  | none => False
 | none => False
def retF (fn:Func) (k:Nat) (σ:St) (Q:List AV → Prop):Prop :=
 match fn.results.toList.mapM (resA P σ) with
 | some [.slc 0 []] => Q []
 | some [.aslc b 0 len esz ag] => match σ.bx.getD b none with
  | some x => if x.arr && decide (esz = k) && decide (0 < k) then
    (x.cs.length = len * esz ∧ (ag = false → esz = 1 ∧ ones x.cs = true)) ∧ Q (chunks esz ag len x.cs) else False
  | none => False
 | _ => False
def initSt (fn:Func) (args:List AV) (boxes:List Bx):St :=
 ⟨args ++ List.replicate (fn.ntmps - args.length) .undef,boxes.map some ++ List.replicate (fn.ntmps + 8) none⟩
def awpF (ctl:Ctl) (fn:Func) (args:List AV) (boxes:List Bx) (Q:AV → List (List AV) → Prop):Prop :=
 match fn.body with
 | some c => awp P S n ctl c (initSt fn args boxes) fun e σ => match e with
  | .normal | .ret => retA P n fn σ Q
  | _ => False
 | none => False
def awpG (ctl:Ctl) (fn:Func) (args:List AV) (k:Nat) (Q:List AV → Prop):Prop :=
 match fn.body with
 | some c => awp P S 0 ctl c (initSt fn args []) fun e σ => match e with
  | .normal | .ret => retF P fn k σ Q
  | _ => False
 | none => False
def inlF (f:FuncId) (args:List AV) (σ:St) (K:AV → St → Prop):Prop :=
 match S.frs.il.lookup f,P.funcs[f]? with
 | some ctl,some fn => match fn.body with
  | some c => if decide (args.length ≤ fn.ntmps) && allLive ⟨σ.sl ++ args,σ.bx⟩ then
    awp P S σ.bx.length ctl c ⟨args ++ List.replicate (fn.ntmps - args.length) .undef,σ.bx ++ List.replicate (fn.ntmps + 8) none⟩ fun e τ => match e with
     | .normal | .ret => match fn.results.toList.mapM (resA P τ) with
      | some vs => K (tupOf vs) ⟨σ.sl,τ.bx⟩
      | none => False
     | _ => False
   else False
  | none => False
 | _,_ => False
def mkS (sp:SpecF) (fr:FuncId → List AV → Nat → List AV → Prop) (sq:FuncId → List AV → List (List AV) → List (List AV) → Prop) (w:Ways):Nat → Specs
 | 0 => ⟨sp,fr,w,fun _ _ _ _ => False,sq⟩
 | k + 1 => ⟨sp,fr,w,inlF P (mkS sp fr sq w k),sq⟩
end
end Go.Proofs.YtblebiafhhhflaaGreat
