/- The program's structures, and how they lie in values (printed by gen.lean). -/
import Derived.Test.YtkojpnkknehhmaaGreatDoorZ5
import Derived.Test.YtkojpnkknehhmaaGreatDoorFr
namespace Go.Proofs.YtkojpnkknehhmaaGreatDoor
open Go.RowKit
theorem mixed:Tryz.prog.follows .mixedOrders=true:=by kernel_rfl
theorem zS (keep:Ctl) {f:FuncId} {fn:Func} {args:List AV} {v:AV} {O:List (List AV)} {R:Prop} (a:Tryz.prog.funcs[f]? = some fn) (c:∀(vs:Array Value) (w:World),(callFunc f vs).run Tryz.prog w=.ok (.enter f vs) w) (n:args.length.ble fn.ntmps=true) (e:H7 Tryz.prog (mkS Tryz.prog (wB Tryz.prog) (jQ Tryz.prog) (xv Tryz.prog) ⟨[],[],[],[],[]⟩ 0) 0 keep fn args [] (fun r Q=>r=v/\Q=O)=R) (h:R):wB Tryz.prog f args [] v O:=yb (w:=⟨[],[],[],[],[]⟩) (k:=0) (keep:=keep) (boxes:=[]) mixed (by exact trivial) a c rfl rfl rfl (Nat.le_of_ble_eq_true n) e h
theorem zX (w:Ways) (k:Nat) (keep:Ctl) (boxes:List Bx) {f:FuncId} {fn:Func} {args:List AV} {v:AV} {O:List (List AV)} {R:Prop} {css:List (List AV)} (i:wN Tryz.prog w.il) (a:Tryz.prog.funcs[f]? = some fn) (c:∀(vs:Array Value) (w:World),(callFunc f vs).run Tryz.prog w=.ok (.enter f vs) w) (s:boxes.map (·.cs)=css) (b:boxes.all (fun x=>!x.arr)=true) (n:args.length.ble fn.ntmps=true) (e:H7 Tryz.prog (mkS Tryz.prog (wB Tryz.prog) (jQ Tryz.prog) (xv Tryz.prog) w k) boxes.length keep fn args boxes (fun r Q=>r=v/\Q=O)=R) (h:R):wB Tryz.prog f args css v O:=yb (w:=w) (k:=k) (keep:=keep) (boxes:=boxes) mixed i a c rfl s b (Nat.le_of_ble_eq_true n) e h
structure TEncl where
 Lo:Int
 Hi:Int
def TEncl.cs (x:TEncl):List AV:=[.int .i64 x.Lo,.int .i64 x.Hi]
def TEncl.av (x:TEncl):AV:=.agg x.cs
def TEncl.zero:TEncl:=⟨0,0⟩
def TEncl.z0:List AV:=[.lit .i64 0,.lit .i64 0]
structure TSnCity where
 Lat:Int
 Lon:Int
 Zone:Int
 Altitude:TEncl
def TSnCity.cs (x:TSnCity):List AV:=[.int .i64 x.Lat,.int .i64 x.Lon,.int .i64 x.Zone,.int .i64 x.Altitude.Lo,.int .i64 x.Altitude.Hi]
def TSnCity.av (x:TSnCity):AV:=.agg x.cs
def TSnCity.zero:TSnCity:=⟨0,0,0,TEncl.zero⟩
def TSnCity.z0:List AV:=[.lit .i64 0,.lit .i64 0,.lit .i64 0,.lit .i64 0,.lit .i64 0]
structure TRoKind where
 Size:Int
 Price:Int
def TRoKind.cs (x:TRoKind):List AV:=[.int .i64 x.Size,.int .i64 x.Price]
def TRoKind.av (x:TRoKind):AV:=.agg x.cs
def TRoKind.zero:TRoKind:=⟨0,0⟩
def TRoKind.z0:List AV:=[.lit .i64 0,.lit .i64 0]
structure TRoSpan where
 From:Int
 Until:Int
def TRoSpan.cs (x:TRoSpan):List AV:=[.int .i64 x.From,.int .i64 x.Until]
def TRoSpan.av (x:TRoSpan):AV:=.agg x.cs
def TRoSpan.zero:TRoSpan:=⟨0,0⟩
def TRoSpan.z0:List AV:=[.lit .i64 0,.lit .i64 0]
structure TRoLorry where
 Name:ByteArray
 Lift:Int
 Room:Int
 From:Int
 Until:Int
 PerHour:Int
def TRoLorry.cs (x:TRoLorry):List AV:=[.str x.Name,.int .i64 x.Lift,.int .i64 x.Room,.int .i64 x.From,.int .i64 x.Until,.int .i64 x.PerHour]
def TRoLorry.av (x:TRoLorry):AV:=.agg x.cs
def TRoLorry.zero:TRoLorry:=⟨default,0,0,0,0,0⟩
def TRoLorry.z0:List AV:=[.undef,.lit .i64 0,.lit .i64 0,.lit .i64 0,.lit .i64 0,.lit .i64 0]
structure TRoJob where
 Name:ByteArray
 X:Int
 Y:Int
 Height:Int
 Seconds:Int
 Parts:List Int
 Closure:Int
 Daylight:Bool
 Value:Int
def TRoJob.cs (x:TRoJob):List AV:=[.str x.Name,.int .i64 x.X,.int .i64 x.Y,.int .i64 x.Height,.int .i64 x.Seconds,.slc 3 (List.map (AV.int .i64) x.Parts),.int .i64 x.Closure,.bool x.Daylight,.int .i64 x.Value]
def TRoJob.av (x:TRoJob):AV:=.agg x.cs
def TRoJob.zero:TRoJob:=⟨default,0,0,0,0,[],0,false,0⟩
def TRoJob.z0:List AV:=[.undef,.lit .i64 0,.lit .i64 0,.lit .i64 0,.lit .i64 0,.slc 0 [],.lit .i64 0,.ff,.lit .i64 0]
structure TRoTask where
 City:TSnCity
 Day:Int
 X:Int
 Y:Int
 Pace:Int
 Kinds:List TRoKind
 Closures:List TRoSpan
 Lorries:List TRoLorry
 Jobs:List TRoJob
def TRoTask.cs (x:TRoTask):List AV:=[.int .i64 x.City.Lat,.int .i64 x.City.Lon,.int .i64 x.City.Zone,.int .i64 x.City.Altitude.Lo,.int .i64 x.City.Altitude.Hi,.int .i64 x.Day,.int .i64 x.X,.int .i64 x.Y,.int .i64 x.Pace,.slc 3 (List.map TRoKind.av x.Kinds),.slc 3 (List.map TRoSpan.av x.Closures),.slc 3 (List.map TRoLorry.av x.Lorries),.slc 3 (List.map TRoJob.av x.Jobs)]
def TRoTask.av (x:TRoTask):AV:=.agg x.cs
def TRoTask.zero:TRoTask:=⟨TSnCity.zero,0,0,0,0,[],[],[],[]⟩
def TRoTask.z0:List AV:=[.lit .i64 0,.lit .i64 0,.lit .i64 0,.lit .i64 0,.lit .i64 0,.lit .i64 0,.lit .i64 0,.lit .i64 0,.lit .i64 0,.slc 0 [],.slc 0 [],.slc 0 [],.slc 0 []]
structure TLate where
 Jobs:List Int
 By:Int
def TLate.cs (x:TLate):List AV:=[.slc 3 (List.map (AV.int .i64) x.Jobs),.int .u16 x.By]
def TLate.av (x:TLate):AV:=.agg x.cs
def TLate.zero:TLate:=⟨[],0⟩
def TLate.z0:List AV:=[.slc 0 [],.lit .u16 0]
structure TMore where
 Kind:Int
 Index:Int
 By:Int
 Lorry:TRoLorry
 Job:TRoJob
def TMore.cs (x:TMore):List AV:=[.int .u8 x.Kind,.int .u8 x.Index,.int .u16 x.By,.str x.Lorry.Name,.int .i64 x.Lorry.Lift,.int .i64 x.Lorry.Room,.int .i64 x.Lorry.From,.int .i64 x.Lorry.Until,.int .i64 x.Lorry.PerHour,.str x.Job.Name,.int .i64 x.Job.X,.int .i64 x.Job.Y,.int .i64 x.Job.Height,.int .i64 x.Job.Seconds,.slc 3 (List.map (AV.int .i64) x.Job.Parts),.int .i64 x.Job.Closure,.bool x.Job.Daylight,.int .i64 x.Job.Value]
def TMore.av (x:TMore):AV:=.agg x.cs
def TMore.zero:TMore:=⟨0,0,0,TRoLorry.zero,TRoJob.zero⟩
def TMore.z0:List AV:=[.lit .u8 0,.lit .u8 0,.lit .u16 0,.undef,.lit .i64 0,.lit .i64 0,.lit .i64 0,.lit .i64 0,.lit .i64 0,.undef,.lit .i64 0,.lit .i64 0,.lit .i64 0,.lit .i64 0,.slc 0 [],.lit .i64 0,.ff,.lit .i64 0]
structure TRoAsset where
 Name:ByteArray
 Cost:Int
 Rate:Int
 Harm:Int
 Last:Int
def TRoAsset.cs (x:TRoAsset):List AV:=[.str x.Name,.int .i64 x.Cost,.int .i64 x.Rate,.int .i64 x.Harm,.int .i64 x.Last]
def TRoAsset.av (x:TRoAsset):AV:=.agg x.cs
def TRoAsset.zero:TRoAsset:=⟨default,0,0,0,0⟩
def TRoAsset.z0:List AV:=[.undef,.lit .i64 0,.lit .i64 0,.lit .i64 0,.lit .i64 0]
structure TRoProgramme where
 Assets:List TRoAsset
 Budgets:List Int
 First:Int
 Days:Int
def TRoProgramme.cs (x:TRoProgramme):List AV:=[.slc 3 (List.map TRoAsset.av x.Assets),.slc 3 (List.map (AV.int .i64) x.Budgets),.int .i64 x.First,.int .i64 x.Days]
def TRoProgramme.av (x:TRoProgramme):AV:=.agg x.cs
def TRoProgramme.zero:TRoProgramme:=⟨[],[],0,0⟩
def TRoProgramme.z0:List AV:=[.slc 0 [],.slc 0 [],.lit .i64 0,.lit .i64 0]
structure TRoStop where
 Job:Int
 Arrive:Int
 Start:Int
 End:Int
def TRoStop.cs (x:TRoStop):List AV:=[.int .i64 x.Job,.int .i64 x.Arrive,.int .i64 x.Start,.int .i64 x.End]
def TRoStop.av (x:TRoStop):AV:=.agg x.cs
def TRoStop.zero:TRoStop:=⟨0,0,0,0⟩
def TRoStop.z0:List AV:=[.lit .i64 0,.lit .i64 0,.lit .i64 0,.lit .i64 0]
structure TRoFault where
 Error:Int
 Lorry:Int
 Job:Int
def TRoFault.cs (x:TRoFault):List AV:=[.int .i64 x.Error,.int .i64 x.Lorry,.int .i64 x.Job]
def TRoFault.av (x:TRoFault):AV:=.agg x.cs
def TRoFault.zero:TRoFault:=⟨0,0,0⟩
def TRoFault.z0:List AV:=[.lit .i64 0,.lit .i64 0,.lit .i64 0]
structure TDepot where
 RoTask:TRoTask
 spans:List TRoSpan
def TDepot.cs (x:TDepot):List AV:=[.int .i64 x.RoTask.City.Lat,.int .i64 x.RoTask.City.Lon,.int .i64 x.RoTask.City.Zone,.int .i64 x.RoTask.City.Altitude.Lo,.int .i64 x.RoTask.City.Altitude.Hi,.int .i64 x.RoTask.Day,.int .i64 x.RoTask.X,.int .i64 x.RoTask.Y,.int .i64 x.RoTask.Pace,.slc 3 (List.map TRoKind.av x.RoTask.Kinds),.slc 3 (List.map TRoSpan.av x.RoTask.Closures),.slc 3 (List.map TRoLorry.av x.RoTask.Lorries),.slc 3 (List.map TRoJob.av x.RoTask.Jobs),.slc 3 (List.map TRoSpan.av x.spans)]
def TDepot.av (x:TDepot):AV:=.agg x.cs
def TDepot.zero:TDepot:=⟨TRoTask.zero,[]⟩
def TDepot.z0:List AV:=[.lit .i64 0,.lit .i64 0,.lit .i64 0,.lit .i64 0,.lit .i64 0,.lit .i64 0,.lit .i64 0,.lit .i64 0,.lit .i64 0,.slc 0 [],.slc 0 [],.slc 0 [],.slc 0 [],.slc 0 []]
structure TTail where
 plan:List (List Int)
 value:Int
 cost:Int
def TTail.cs (x:TTail):List AV:=[.slc 3 (List.map (fun x=>.slc 3 (List.map (AV.int .i64) x)) x.plan),.int .i64 x.value,.int .i64 x.cost]
def TTail.av (x:TTail):AV:=.agg x.cs
def TTail.zero:TTail:=⟨[],0,0⟩
def TTail.z0:List AV:=[.slc 0 [],.lit .i64 0,.lit .i64 0]
structure TSearch where
 depot:AV
 known:AV
 better:AV
def TSearch.cs (x:TSearch):List AV:=[x.depot,x.known,x.better]
def TSearch.av (x:TSearch):AV:=.agg x.cs
def TSearch.zero:TSearch:=⟨.nilp,.nilmap,.nilfn⟩
def TSearch.z0:List AV:=[.nilp,.nilmap,.nilfn]
structure TTour where
 RoLorry:TRoLorry
 d:AV
 now:Int
 last:Int
 stops:List TRoStop
 room:Int
 price:Int
 value:Int
def TTour.cs (x:TTour):List AV:=[.str x.RoLorry.Name,.int .i64 x.RoLorry.Lift,.int .i64 x.RoLorry.Room,.int .i64 x.RoLorry.From,.int .i64 x.RoLorry.Until,.int .i64 x.RoLorry.PerHour,x.d,.int .i64 x.now,.int .i64 x.last,.slc 3 (List.map TRoStop.av x.stops),.int .i64 x.room,.int .i64 x.price,.int .i64 x.value]
def TTour.av (x:TTour):AV:=.agg x.cs
def TTour.zero:TTour:=⟨TRoLorry.zero,.nilp,0,0,[],0,0,0⟩
def TTour.z0:List AV:=[.undef,.lit .i64 0,.lit .i64 0,.lit .i64 0,.lit .i64 0,.lit .i64 0,.nilp,.lit .i64 0,.lit .i64 0,.slc 0 [],.lit .i64 0,.lit .i64 0,.lit .i64 0]
structure THalf where
 c:TSnCity
 day:Int
 rise:Bool
def THalf.cs (x:THalf):List AV:=[.int .i64 x.c.Lat,.int .i64 x.c.Lon,.int .i64 x.c.Zone,.int .i64 x.c.Altitude.Lo,.int .i64 x.c.Altitude.Hi,.int .i64 x.day,.bool x.rise]
def THalf.av (x:THalf):AV:=.agg x.cs
def THalf.zero:THalf:=⟨TSnCity.zero,0,false⟩
def THalf.z0:List AV:=[.lit .i64 0,.lit .i64 0,.lit .i64 0,.lit .i64 0,.lit .i64 0,.lit .i64 0,.ff]
structure TSky where
 sin:TEncl
 cos:TEncl
 equation:TEncl
def TSky.cs (x:TSky):List AV:=[.int .i64 x.sin.Lo,.int .i64 x.sin.Hi,.int .i64 x.cos.Lo,.int .i64 x.cos.Hi,.int .i64 x.equation.Lo,.int .i64 x.equation.Hi]
def TSky.av (x:TSky):AV:=.agg x.cs
def TSky.zero:TSky:=⟨TEncl.zero,TEncl.zero,TEncl.zero⟩
def TSky.z0:List AV:=[.lit .i64 0,.lit .i64 0,.lit .i64 0,.lit .i64 0,.lit .i64 0,.lit .i64 0]
structure TFixed where
 hi:Int
 lo:Int
def TFixed.cs (x:TFixed):List AV:=[.int .u64 x.hi,.int .u64 x.lo]
def TFixed.av (x:TFixed):AV:=.agg x.cs
def TFixed.zero:TFixed:=⟨0,0⟩
def TFixed.z0:List AV:=[.lit .u64 0,.lit .u64 0]
structure TBoundsError where
 x:Int
 y:Int
 signed:Bool
 code:Int
def TBoundsError.cs (x:TBoundsError):List AV:=[.int .i64 x.x,.int .i64 x.y,.bool x.signed,.int .u8 x.code]
def TBoundsError.av (x:TBoundsError):AV:=.agg x.cs
def TBoundsError.zero:TBoundsError:=⟨0,0,false,0⟩
def TBoundsError.z0:List AV:=[.lit .i64 0,.lit .i64 0,.ff,.lit .u8 0]
structure TErrorAddressString where
 msg:ByteArray
 addr:Int
def TErrorAddressString.cs (x:TErrorAddressString):List AV:=[.str x.msg,.int .u64 x.addr]
def TErrorAddressString.av (x:TErrorAddressString):AV:=.agg x.cs
def TErrorAddressString.zero:TErrorAddressString:=⟨default,0⟩
def TErrorAddressString.z0:List AV:=[.undef,.lit .u64 0]
structure TTypeAssertionError where
 _interface:AV
 concrete:AV
 asserted:AV
 missingMethod:ByteArray
def TTypeAssertionError.cs (x:TTypeAssertionError):List AV:=[x._interface,x.concrete,x.asserted,.str x.missingMethod]
def TTypeAssertionError.av (x:TTypeAssertionError):AV:=.agg x.cs
def TTypeAssertionError.zero:TTypeAssertionError:=⟨.nilp,.nilp,.nilp,default⟩
def TTypeAssertionError.z0:List AV:=[.nilp,.nilp,.nilp,.undef]
structure TPanicNilError where
def TPanicNilError.cs (_x:TPanicNilError):List AV:=[]
def TPanicNilError.av (x:TPanicNilError):AV:=.agg x.cs
def TPanicNilError.zero:TPanicNilError:=⟨⟩
def TPanicNilError.z0:List AV:=[]
structure TType where
 Size_:Int
 PtrBytes:Int
 Hash:Int
 TFlag:Int
 Align_:Int
 FieldAlign_:Int
 Kind_:Int
 Equal:AV
 GCData:AV
 Str:Int
 PtrToThis:Int
def TType.cs (x:TType):List AV:=[.int .u64 x.Size_,.int .u64 x.PtrBytes,.int .u32 x.Hash,.int .u8 x.TFlag,.int .u8 x.Align_,.int .u8 x.FieldAlign_,.int .u8 x.Kind_,x.Equal,x.GCData,.int .i32 x.Str,.int .i32 x.PtrToThis]
def TType.av (x:TType):AV:=.agg x.cs
def TType.zero:TType:=⟨0,0,0,0,0,0,0,.nilfn,.nilp,0,0⟩
def TType.z0:List AV:=[.lit .u64 0,.lit .u64 0,.lit .u32 0,.lit .u8 0,.lit .u8 0,.lit .u8 0,.lit .u8 0,.nilfn,.nilp,.lit .i32 0,.lit .i32 0]
structure TUnhashableTypeError where
 typ:AV
def TUnhashableTypeError.cs (x:TUnhashableTypeError):List AV:=[x.typ]
def TUnhashableTypeError.av (x:TUnhashableTypeError):AV:=.agg x.cs
def TUnhashableTypeError.zero:TUnhashableTypeError:=⟨.nilp⟩
def TUnhashableTypeError.z0:List AV:=[.nilp]
structure TErrorString where
 s:ByteArray
def TErrorString.cs (x:TErrorString):List AV:=[.str x.s]
def TErrorString.av (x:TErrorString):AV:=.agg x.cs
def TErrorString.zero:TErrorString:=⟨default⟩
def TErrorString.z0:List AV:=[.undef]
def TDepot.ptr (d:TDepot):AV:=.eptr d.cs 0
def TTour.on (r:TTour) (d:TDepot):TTour:={ r with d:=d.ptr }
end Go.Proofs.YtkojpnkknehhmaaGreatDoor
