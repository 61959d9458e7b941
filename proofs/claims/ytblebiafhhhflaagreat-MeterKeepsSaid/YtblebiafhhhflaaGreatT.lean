/- The program's structures, and how they lie in values (printed by gen.lean). -/
import Derived.Test.YtblebiafhhhflaaGreatY1
namespace Go.Proofs.YtblebiafhhhflaaGreat
open Go.RowKit
theorem mixed:Tryz.prog.follows .mixedOrders = true:=by kernel_rfl
structure TEncl where
 Lo:Int
 Hi:Int
def TEncl.cs (x:TEncl):List AV:=[.int .i64 x.Lo,.int .i64 x.Hi]
def TEncl.av (x:TEncl):AV:=.agg x.cs
def TEncl.zero:TEncl:=⟨0,0⟩
def TEncl.z0:List AV:=[.lit .i64 0,.lit .i64 0]

structure TSnCity where
 Lat:Int
 Lon:Int
 Zone:Int
 Altitude:TEncl
def TSnCity.cs (x:TSnCity):List AV:=[.int .i64 x.Lat,.int .i64 x.Lon,.int .i64 x.Zone,.int .i64 x.Altitude.Lo,.int .i64 x.Altitude.Hi]
def TSnCity.av (x:TSnCity):AV:=.agg x.cs
def TSnCity.zero:TSnCity:=⟨0,0,0,TEncl.zero⟩
def TSnCity.z0:List AV:=[.lit .i64 0,.lit .i64 0,.lit .i64 0,.lit .i64 0,.lit .i64 0]

structure TLmTable where
 Name:ByteArray
 Us:List Int
 Vs:List Int
 Values:List (List Int)
 Side:Int
 Sky:Int
def TLmTable.cs (x:TLmTable):List AV:=[.str x.Name,.slc 3 (List.map (AV.int .i64) x.Us),.slc 3 (List.map (AV.int .i64) x.Vs),.slc 3 (List.map (fun x => .slc 3 (List.map (AV.int .i64) x)) x.Values),.int .i64 x.Side,.int .i64 x.Sky]
def TLmTable.av (x:TLmTable):AV:=.agg x.cs
def TLmTable.zero:TLmTable:=⟨default,[],[],[],0,0⟩
def TLmTable.z0:List AV:=[.undef,.slc 0 [],.slc 0 [],.slc 0 [],.lit .i64 0,.lit .i64 0]

structure TLmLamp where
 Name:ByteArray
 Table:Int
 Kind:Int
 Lumens:Int
 Power:Int
 Standing:Int
 Tolerance:Int
 Ageing:TEncl
 Dirt:TEncl
 Life:Int
 Dim:Int
 Restrike:Int
def TLmLamp.cs (x:TLmLamp):List AV:=[.str x.Name,.int .i64 x.Table,.int .i64 x.Kind,.int .i64 x.Lumens,.int .i64 x.Power,.int .i64 x.Standing,.int .i64 x.Tolerance,.int .i64 x.Ageing.Lo,.int .i64 x.Ageing.Hi,.int .i64 x.Dirt.Lo,.int .i64 x.Dirt.Hi,.int .i64 x.Life,.int .i64 x.Dim,.int .i64 x.Restrike]
def TLmLamp.av (x:TLmLamp):AV:=.agg x.cs
def TLmLamp.zero:TLmLamp:=⟨default,0,0,0,0,0,0,TEncl.zero,TEncl.zero,0,0,0⟩
def TLmLamp.z0:List AV:=[.undef,.lit .i64 0,.lit .i64 0,.lit .i64 0,.lit .i64 0,.lit .i64 0,.lit .i64 0,.lit .i64 0,.lit .i64 0,.lit .i64 0,.lit .i64 0,.lit .i64 0,.lit .i64 0,.lit .i64 0]

structure TLmCatalog where
 Tables:List TLmTable
 Lamps:List TLmLamp
def TLmCatalog.cs (x:TLmCatalog):List AV:=[.slc 3 (List.map TLmTable.av x.Tables),.slc 3 (List.map TLmLamp.av x.Lamps)]
def TLmCatalog.av (x:TLmCatalog):AV:=.agg x.cs
def TLmCatalog.zero:TLmCatalog:=⟨[],[]⟩
def TLmCatalog.z0:List AV:=[.slc 0 [],.slc 0 []]

structure TMtStep where
 From:Int
 Level:Int
def TMtStep.cs (x:TMtStep):List AV:=[.int .i64 x.From,.int .i64 x.Level]
def TMtStep.av (x:TMtStep):AV:=.agg x.cs
def TMtStep.zero:TMtStep:=⟨0,0⟩
def TMtStep.z0:List AV:=[.lit .i64 0,.lit .i64 0]

structure TMtProfile where
 Name:ByteArray
 Steps:List TMtStep
def TMtProfile.cs (x:TMtProfile):List AV:=[.str x.Name,.slc 3 (List.map TMtStep.av x.Steps)]
def TMtProfile.av (x:TMtProfile):AV:=.agg x.cs
def TMtProfile.zero:TMtProfile:=⟨default,[]⟩
def TMtProfile.z0:List AV:=[.undef,.slc 0 []]

structure TMtItem where
 Name:ByteArray
 Lamp:Int
 Count:Int
 Profile:Int
 Meter:Int
 Declared:Int
 From:Int
 Until:Int
def TMtItem.cs (x:TMtItem):List AV:=[.str x.Name,.int .i64 x.Lamp,.int .i64 x.Count,.int .i64 x.Profile,.int .i64 x.Meter,.int .i64 x.Declared,.int .i64 x.From,.int .i64 x.Until]
def TMtItem.av (x:TMtItem):AV:=.agg x.cs
def TMtItem.zero:TMtItem:=⟨default,0,0,0,0,0,0,0⟩
def TMtItem.z0:List AV:=[.undef,.lit .i64 0,.lit .i64 0,.lit .i64 0,.lit .i64 0,.lit .i64 0,.lit .i64 0,.lit .i64 0]

structure TMtReading where
 Day:Int
 Value:Int
def TMtReading.cs (x:TMtReading):List AV:=[.int .i64 x.Day,.int .i64 x.Value]
def TMtReading.av (x:TMtReading):AV:=.agg x.cs
def TMtReading.zero:TMtReading:=⟨0,0⟩
def TMtReading.z0:List AV:=[.lit .i64 0,.lit .i64 0]

structure TMtMeter where
 Name:ByteArray
 Step:Int
 Modulus:Int
 Error:Int
 Readings:List TMtReading
def TMtMeter.cs (x:TMtMeter):List AV:=[.str x.Name,.int .i64 x.Step,.int .i64 x.Modulus,.int .i64 x.Error,.slc 3 (List.map TMtReading.av x.Readings)]
def TMtMeter.av (x:TMtMeter):AV:=.agg x.cs
def TMtMeter.zero:TMtMeter:=⟨default,0,0,0,[]⟩
def TMtMeter.z0:List AV:=[.undef,.lit .i64 0,.lit .i64 0,.lit .i64 0,.slc 0 []]

structure TMtTask where
 City:TSnCity
 Catalog:TLmCatalog
 Profiles:List TMtProfile
 Items:List TMtItem
 Meters:List TMtMeter
def TMtTask.cs (x:TMtTask):List AV:=[.int .i64 x.City.Lat,.int .i64 x.City.Lon,.int .i64 x.City.Zone,.int .i64 x.City.Altitude.Lo,.int .i64 x.City.Altitude.Hi,.slc 3 (List.map TLmTable.av x.Catalog.Tables),.slc 3 (List.map TLmLamp.av x.Catalog.Lamps),.slc 3 (List.map TMtProfile.av x.Profiles),.slc 3 (List.map TMtItem.av x.Items),.slc 3 (List.map TMtMeter.av x.Meters)]
def TMtTask.av (x:TMtTask):AV:=.agg x.cs
def TMtTask.zero:TMtTask:=⟨TSnCity.zero,TLmCatalog.zero,[],[],[]⟩
def TMtTask.z0:List AV:=[.lit .i64 0,.lit .i64 0,.lit .i64 0,.lit .i64 0,.lit .i64 0,.slc 0 [],.slc 0 [],.slc 0 [],.slc 0 [],.slc 0 []]

structure TAsk where
 Index:Int
 Day:Int
 Second:Int
def TAsk.cs (x:TAsk):List AV:=[.int .i64 x.Index,.int .i64 x.Day,.int .i64 x.Second]
def TAsk.av (x:TAsk):AV:=.agg x.cs
def TAsk.zero:TAsk:=⟨0,0,0⟩
def TAsk.z0:List AV:=[.lit .i64 0,.lit .i64 0,.lit .i64 0]

structure TNew where
 Item:Int
 Day:Int
 Lamp:Int
 Name:ByteArray
def TNew.cs (x:TNew):List AV:=[.int .i64 x.Item,.int .i64 x.Day,.int .i64 x.Lamp,.str x.Name]
def TNew.av (x:TNew):AV:=.agg x.cs
def TNew.zero:TNew:=⟨0,0,0,default⟩
def TNew.z0:List AV:=[.lit .i64 0,.lit .i64 0,.lit .i64 0,.undef]

structure TSnNight where
 On:Int
 Off:Int
def TSnNight.cs (x:TSnNight):List AV:=[.int .i64 x.On,.int .i64 x.Off]
def TSnNight.av (x:TSnNight):AV:=.agg x.cs
def TSnNight.zero:TSnNight:=⟨0,0⟩
def TSnNight.z0:List AV:=[.lit .i64 0,.lit .i64 0]

structure TMtSuspect where
 Item:Int
 Least:Int
 Most:Int
def TMtSuspect.cs (x:TMtSuspect):List AV:=[.int .i64 x.Item,.int .i64 x.Least,.int .i64 x.Most]
def TMtSuspect.av (x:TMtSuspect):AV:=.agg x.cs
def TMtSuspect.zero:TMtSuspect:=⟨0,0,0⟩
def TMtSuspect.z0:List AV:=[.lit .i64 0,.lit .i64 0,.lit .i64 0]

structure TMtVerdict where
 Kind:Int
 Metered:TEncl
 Reckoned:TEncl
def TMtVerdict.cs (x:TMtVerdict):List AV:=[.int .i64 x.Kind,.int .i64 x.Metered.Lo,.int .i64 x.Metered.Hi,.int .i64 x.Reckoned.Lo,.int .i64 x.Reckoned.Hi]
def TMtVerdict.av (x:TMtVerdict):AV:=.agg x.cs
def TMtVerdict.zero:TMtVerdict:=⟨0,TEncl.zero,TEncl.zero⟩
def TMtVerdict.z0:List AV:=[.lit .i64 0,.lit .i64 0,.lit .i64 0,.lit .i64 0,.lit .i64 0]

structure TAccount where
 MtTask:TMtTask
 nights:AV
def TAccount.cs (x:TAccount):List AV:=[.int .i64 x.MtTask.City.Lat,.int .i64 x.MtTask.City.Lon,.int .i64 x.MtTask.City.Zone,.int .i64 x.MtTask.City.Altitude.Lo,.int .i64 x.MtTask.City.Altitude.Hi,.slc 3 (List.map TLmTable.av x.MtTask.Catalog.Tables),.slc 3 (List.map TLmLamp.av x.MtTask.Catalog.Lamps),.slc 3 (List.map TMtProfile.av x.MtTask.Profiles),.slc 3 (List.map TMtItem.av x.MtTask.Items),.slc 3 (List.map TMtMeter.av x.MtTask.Meters),x.nights]
def TAccount.av (x:TAccount):AV:=.agg x.cs
def TAccount.zero:TAccount:=⟨TMtTask.zero,.nilmap⟩
def TAccount.z0:List AV:=[.lit .i64 0,.lit .i64 0,.lit .i64 0,.lit .i64 0,.lit .i64 0,.slc 0 [],.slc 0 [],.slc 0 [],.slc 0 [],.slc 0 [],.nilmap]

structure TSum where
 Encl:TEncl
def TSum.cs (x:TSum):List AV:=[.int .i64 x.Encl.Lo,.int .i64 x.Encl.Hi]
def TSum.av (x:TSum):AV:=.agg x.cs
def TSum.zero:TSum:=⟨TEncl.zero⟩
def TSum.z0:List AV:=[.lit .i64 0,.lit .i64 0]

structure TPair where
 MtMeter:TMtMeter
 a:TMtReading
 b:TMtReading
def TPair.cs (x:TPair):List AV:=[.str x.MtMeter.Name,.int .i64 x.MtMeter.Step,.int .i64 x.MtMeter.Modulus,.int .i64 x.MtMeter.Error,.slc 3 (List.map TMtReading.av x.MtMeter.Readings),.int .i64 x.a.Day,.int .i64 x.a.Value,.int .i64 x.b.Day,.int .i64 x.b.Value]
def TPair.av (x:TPair):AV:=.agg x.cs
def TPair.zero:TPair:=⟨TMtMeter.zero,TMtReading.zero,TMtReading.zero⟩
def TPair.z0:List AV:=[.undef,.lit .i64 0,.lit .i64 0,.lit .i64 0,.slc 0 [],.lit .i64 0,.lit .i64 0,.lit .i64 0,.lit .i64 0]

structure THalf where
 c:TSnCity
 day:Int
 rise:Bool
def THalf.cs (x:THalf):List AV:=[.int .i64 x.c.Lat,.int .i64 x.c.Lon,.int .i64 x.c.Zone,.int .i64 x.c.Altitude.Lo,.int .i64 x.c.Altitude.Hi,.int .i64 x.day,.bool x.rise]
def THalf.av (x:THalf):AV:=.agg x.cs
def THalf.zero:THalf:=⟨TSnCity.zero,0,false⟩
def THalf.z0:List AV:=[.lit .i64 0,.lit .i64 0,.lit .i64 0,.lit .i64 0,.lit .i64 0,.lit .i64 0,.ff]

structure TSky where
 sin:TEncl
 cos:TEncl
 equation:TEncl
def TSky.cs (x:TSky):List AV:=[.int .i64 x.sin.Lo,.int .i64 x.sin.Hi,.int .i64 x.cos.Lo,.int .i64 x.cos.Hi,.int .i64 x.equation.Lo,.int .i64 x.equation.Hi]
def TSky.av (x:TSky):AV:=.agg x.cs
def TSky.zero:TSky:=⟨TEncl.zero,TEncl.zero,TEncl.zero⟩
def TSky.z0:List AV:=[.lit .i64 0,.lit .i64 0,.lit .i64 0,.lit .i64 0,.lit .i64 0,.lit .i64 0]

structure TFixed where
 hi:Int
 lo:Int
def TFixed.cs (x:TFixed):List AV:=[.int .u64 x.hi,.int .u64 x.lo]
def TFixed.av (x:TFixed):AV:=.agg x.cs
def TFixed.zero:TFixed:=⟨0,0⟩
def TFixed.z0:List AV:=[.lit .u64 0,.lit .u64 0]

structure TBoundsError where
 x:Int
 y:Int
 signed:Bool
 code:Int
def TBoundsError.cs (x:TBoundsError):List AV:=[.int .i64 x.x,.int .i64 x.y,.bool x.signed,.int .u8 x.code]
def TBoundsError.av (x:TBoundsError):AV:=.agg x.cs
def TBoundsError.zero:TBoundsError:=⟨0,0,false,0⟩
def TBoundsError.z0:List AV:=[.lit .i64 0,.lit .i64 0,.ff,.lit .u8 0]

structure TErrorAddressString where
 msg:ByteArray
 addr:Int
def TErrorAddressString.cs (x:TErrorAddressString):List AV:=[.str x.msg,.int .u64 x.addr]
def TErrorAddressString.av (x:TErrorAddressString):AV:=.agg x.cs
def TErrorAddressString.zero:TErrorAddressString:=⟨default,0⟩
def TErrorAddressString.z0:List AV:=[.undef,.lit .u64 0]

structure TTypeAssertionError where
 _interface:AV
 concrete:AV
 asserted:AV
 missingMethod:ByteArray
def TTypeAssertionError.cs (x:TTypeAssertionError):List AV:=[x._interface,x.concrete,x.asserted,.str x.missingMethod]
def TTypeAssertionError.av (x:TTypeAssertionError):AV:=.agg x.cs
def TTypeAssertionError.zero:TTypeAssertionError:=⟨.nilp,.nilp,.nilp,default⟩
def TTypeAssertionError.z0:List AV:=[.nilp,.nilp,.nilp,.undef]

structure TPanicNilError where
def TPanicNilError.cs (_x:TPanicNilError):List AV:=[]
def TPanicNilError.av (x:TPanicNilError):AV:=.agg x.cs
def TPanicNilError.zero:TPanicNilError:=⟨⟩
def TPanicNilError.z0:List AV:=[]

structure TType where
 Size_:Int
 PtrBytes:Int
 Hash:Int
 TFlag:Int
 Align_:Int
 FieldAlign_:Int
 Kind_:Int
 Equal:AV
 GCData:AV
 Str:Int
 PtrToThis:Int
def TType.cs (x:TType):List AV:=[.int .u64 x.Size_,.int .u64 x.PtrBytes,.int .u32 x.Hash,.int .u8 x.TFlag,.int .u8 x.Align_,.int .u8 x.FieldAlign_,.int .u8 x.Kind_,x.Equal,x.GCData,.int .i32 x.Str,.int .i32 x.PtrToThis]
def TType.av (x:TType):AV:=.agg x.cs
def TType.zero:TType:=⟨0,0,0,0,0,0,0,.nilfn,.nilp,0,0⟩
def TType.z0:List AV:=[.lit .u64 0,.lit .u64 0,.lit .u32 0,.lit .u8 0,.lit .u8 0,.lit .u8 0,.lit .u8 0,.nilfn,.nilp,.lit .i32 0,.lit .i32 0]

structure TUnhashableTypeError where
 typ:AV
def TUnhashableTypeError.cs (x:TUnhashableTypeError):List AV:=[x.typ]
def TUnhashableTypeError.av (x:TUnhashableTypeError):AV:=.agg x.cs
def TUnhashableTypeError.zero:TUnhashableTypeError:=⟨.nilp⟩
def TUnhashableTypeError.z0:List AV:=[.nilp]

structure TErrorString where
 s:ByteArray
def TErrorString.cs (x:TErrorString):List AV:=[.str x.s]
def TErrorString.av (x:TErrorString):AV:=.agg x.cs
def TErrorString.zero:TErrorString:=⟨default⟩
def TErrorString.z0:List AV:=[.undef]

structure TStretch where
 from':Int
 long:Int
 burns:Bool
def TStretch.cs (x:TStretch):List AV:=[.int .i64 x.from',.int .i64 x.long,.bool x.burns]
def TStretch.av (x:TStretch):AV:=.agg x.cs
def TStretch.zero:TStretch:=⟨0,0,false⟩
def TStretch.z0:List AV:=[.lit .i64 0,.lit .i64 0,.ff]

end Go.Proofs.YtblebiafhhhflaaGreat
