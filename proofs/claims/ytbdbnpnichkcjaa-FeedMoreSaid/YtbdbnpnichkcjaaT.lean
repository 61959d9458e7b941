/- The program's structures, and how they lie in values (printed by gen.lean). -/
import Derived.Test.YtbdbnpnichkcjaaY1
namespace Go.Proofs.Ytbdbnpnichkcjaa
open Go.RowKit
theorem mixed : Try.prog.follows .mixedOrders = true := by kernel_rfl
structure TEncl where
  Lo : Int
  Hi : Int
def TEncl.cs (x : TEncl) : List AV := [.int .i64 x.Lo, .int .i64 x.Hi]
def TEncl.av (x : TEncl) : AV := .agg x.cs
def TEncl.zero : TEncl := ⟨0, 0⟩
def TEncl.z0 : List AV := [.lit .i64 0, .lit .i64 0]

structure TFeCable where
  Name : ByteArray
  Core : TEncl
  Earth : TEncl
  Rated : Int
def TFeCable.cs (x : TFeCable) : List AV := [.str x.Name, .int .i64 x.Core.Lo, .int .i64 x.Core.Hi, .int .i64 x.Earth.Lo, .int .i64 x.Earth.Hi, .int .i64 x.Rated]
def TFeCable.av (x : TFeCable) : AV := .agg x.cs
def TFeCable.zero : TFeCable := ⟨default, TEncl.zero, TEncl.zero, 0⟩
def TFeCable.z0 : List AV := [.undef, .lit .i64 0, .lit .i64 0, .lit .i64 0, .lit .i64 0, .lit .i64 0]

structure TFePoint where
  Current : Int
  Melt : TEncl
def TFePoint.cs (x : TFePoint) : List AV := [.int .i64 x.Current, .int .i64 x.Melt.Lo, .int .i64 x.Melt.Hi]
def TFePoint.av (x : TFePoint) : AV := .agg x.cs
def TFePoint.zero : TFePoint := ⟨0, TEncl.zero⟩
def TFePoint.z0 : List AV := [.lit .i64 0, .lit .i64 0, .lit .i64 0]

structure TFeFuse where
  Name : ByteArray
  Rated : Int
  Points : List TFePoint
def TFeFuse.cs (x : TFeFuse) : List AV := [.str x.Name, .int .i64 x.Rated, .slc 3 (List.map TFePoint.av x.Points)]
def TFeFuse.av (x : TFeFuse) : AV := .agg x.cs
def TFeFuse.zero : TFeFuse := ⟨default, 0, []⟩
def TFeFuse.z0 : List AV := [.undef, .lit .i64 0, .slc 0 []]

structure TFeNode where
  Name : ByteArray
  Parent : Int
  Cable : Int
  Length : Int
  Fuse : Int
  Loads0 : TEncl
  Loads1 : TEncl
  Loads2 : TEncl
def TFeNode.cs (x : TFeNode) : List AV := [.str x.Name, .int .i64 x.Parent, .int .i64 x.Cable, .int .i64 x.Length, .int .i64 x.Fuse, .int .i64 x.Loads0.Lo, .int .i64 x.Loads0.Hi, .int .i64 x.Loads1.Lo, .int .i64 x.Loads1.Hi, .int .i64 x.Loads2.Lo, .int .i64 x.Loads2.Hi]
def TFeNode.av (x : TFeNode) : AV := .agg x.cs
def TFeNode.zero : TFeNode := ⟨default, 0, 0, 0, 0, TEncl.zero, TEncl.zero, TEncl.zero⟩
def TFeNode.z0 : List AV := [.undef, .lit .i64 0, .lit .i64 0, .lit .i64 0, .lit .i64 0, .lit .i64 0, .lit .i64 0, .lit .i64 0, .lit .i64 0, .lit .i64 0, .lit .i64 0]

structure TFeFeeder where
  Cables : List TFeCable
  Fuses : List TFeFuse
  Nodes : List TFeNode
  Volts : TEncl
  Source : TEncl
  Drop : Int
  Limit : Int
def TFeFeeder.cs (x : TFeFeeder) : List AV := [.slc 3 (List.map TFeCable.av x.Cables), .slc 3 (List.map TFeFuse.av x.Fuses), .slc 3 (List.map TFeNode.av x.Nodes), .int .i64 x.Volts.Lo, .int .i64 x.Volts.Hi, .int .i64 x.Source.Lo, .int .i64 x.Source.Hi, .int .i64 x.Drop, .int .i64 x.Limit]
def TFeFeeder.av (x : TFeFeeder) : AV := .agg x.cs
def TFeFeeder.zero : TFeFeeder := ⟨[], [], [], TEncl.zero, TEncl.zero, 0, 0⟩
def TFeFeeder.z0 : List AV := [.slc 0 [], .slc 0 [], .slc 0 [], .lit .i64 0, .lit .i64 0, .lit .i64 0, .lit .i64 0, .lit .i64 0, .lit .i64 0]

structure TReal where
  Node : Int
  At0 : Int
  At1 : Int
  At2 : Int
  Core0 : Int
  Core1 : Int
  Phase : Int
def TReal.cs (x : TReal) : List AV := [.int .i64 x.Node, .int .u8 x.At0, .int .u8 x.At1, .int .u8 x.At2, .int .u8 x.Core0, .int .u8 x.Core1, .int .u8 x.Phase]
def TReal.av (x : TReal) : AV := .agg x.cs
def TReal.zero : TReal := ⟨0, 0, 0, 0, 0, 0, 0⟩
def TReal.z0 : List AV := [.lit .i64 0, .lit .u8 0, .lit .u8 0, .lit .u8 0, .lit .u8 0, .lit .u8 0, .lit .u8 0]

structure TFeOpen where
  Node : Int
  Phase : Int
def TFeOpen.cs (x : TFeOpen) : List AV := [.int .i64 x.Node, .int .i64 x.Phase]
def TFeOpen.av (x : TFeOpen) : AV := .agg x.cs
def TFeOpen.zero : TFeOpen := ⟨0, 0⟩
def TFeOpen.z0 : List AV := [.lit .i64 0, .lit .i64 0]

structure TFeFault where
  Error : Int
  Node : Int
  Other : Int
def TFeFault.cs (x : TFeFault) : List AV := [.int .i64 x.Error, .int .i64 x.Node, .int .i64 x.Other]
def TFeFault.av (x : TFeFault) : AV := .agg x.cs
def TFeFault.zero : TFeFault := ⟨0, 0, 0⟩
def TFeFault.z0 : List AV := [.lit .i64 0, .lit .i64 0, .lit .i64 0]

structure TJudge where
  f : TFeFeeder
  list : List TFeFault
def TJudge.cs (x : TJudge) : List AV := [.slc 3 (List.map TFeCable.av x.f.Cables), .slc 3 (List.map TFeFuse.av x.f.Fuses), .slc 3 (List.map TFeNode.av x.f.Nodes), .int .i64 x.f.Volts.Lo, .int .i64 x.f.Volts.Hi, .int .i64 x.f.Source.Lo, .int .i64 x.f.Source.Hi, .int .i64 x.f.Drop, .int .i64 x.f.Limit, .slc 3 (List.map TFeFault.av x.list)]
def TJudge.av (x : TJudge) : AV := .agg x.cs
def TJudge.zero : TJudge := ⟨TFeFeeder.zero, []⟩
def TJudge.z0 : List AV := [.slc 0 [], .slc 0 [], .slc 0 [], .lit .i64 0, .lit .i64 0, .lit .i64 0, .lit .i64 0, .lit .i64 0, .lit .i64 0, .slc 0 []]

structure TGuard where
  node : Int
  fuse : TFeFuse
  besides : Int
def TGuard.cs (x : TGuard) : List AV := [.int .i64 x.node, .str x.fuse.Name, .int .i64 x.fuse.Rated, .slc 3 (List.map TFePoint.av x.fuse.Points), .int .i64 x.besides]
def TGuard.av (x : TGuard) : AV := .agg x.cs
def TGuard.zero : TGuard := ⟨0, TFeFuse.zero, 0⟩
def TGuard.z0 : List AV := [.lit .i64 0, .undef, .lit .i64 0, .slc 0 [], .lit .i64 0]

structure TBoundsError where
  x : Int
  y : Int
  signed : Bool
  code : Int
def TBoundsError.cs (x : TBoundsError) : List AV := [.int .i64 x.x, .int .i64 x.y, .bool x.signed, .int .u8 x.code]
def TBoundsError.av (x : TBoundsError) : AV := .agg x.cs
def TBoundsError.zero : TBoundsError := ⟨0, 0, false, 0⟩
def TBoundsError.z0 : List AV := [.lit .i64 0, .lit .i64 0, .ff, .lit .u8 0]

structure TErrorAddressString where
  msg : ByteArray
  addr : Int
def TErrorAddressString.cs (x : TErrorAddressString) : List AV := [.str x.msg, .int .u64 x.addr]
def TErrorAddressString.av (x : TErrorAddressString) : AV := .agg x.cs
def TErrorAddressString.zero : TErrorAddressString := ⟨default, 0⟩
def TErrorAddressString.z0 : List AV := [.undef, .lit .u64 0]

structure TTypeAssertionError where
  _interface : AV
  concrete : AV
  asserted : AV
  missingMethod : ByteArray
def TTypeAssertionError.cs (x : TTypeAssertionError) : List AV := [x._interface, x.concrete, x.asserted, .str x.missingMethod]
def TTypeAssertionError.av (x : TTypeAssertionError) : AV := .agg x.cs
def TTypeAssertionError.zero : TTypeAssertionError := ⟨.nilp, .nilp, .nilp, default⟩
def TTypeAssertionError.z0 : List AV := [.nilp, .nilp, .nilp, .undef]

structure TPanicNilError where
def TPanicNilError.cs (x : TPanicNilError) : List AV := []
def TPanicNilError.av (x : TPanicNilError) : AV := .agg x.cs
def TPanicNilError.zero : TPanicNilError := ⟨⟩
def TPanicNilError.z0 : List AV := []

structure TType where
  Size_ : Int
  PtrBytes : Int
  Hash : Int
  TFlag : Int
  Align_ : Int
  FieldAlign_ : Int
  Kind_ : Int
  Equal : AV
  GCData : AV
  Str : Int
  PtrToThis : Int
def TType.cs (x : TType) : List AV := [.int .u64 x.Size_, .int .u64 x.PtrBytes, .int .u32 x.Hash, .int .u8 x.TFlag, .int .u8 x.Align_, .int .u8 x.FieldAlign_, .int .u8 x.Kind_, x.Equal, x.GCData, .int .i32 x.Str, .int .i32 x.PtrToThis]
def TType.av (x : TType) : AV := .agg x.cs
def TType.zero : TType := ⟨0, 0, 0, 0, 0, 0, 0, .nilfn, .nilp, 0, 0⟩
def TType.z0 : List AV := [.lit .u64 0, .lit .u64 0, .lit .u32 0, .lit .u8 0, .lit .u8 0, .lit .u8 0, .lit .u8 0, .nilfn, .nilp, .lit .i32 0, .lit .i32 0]

structure TUnhashableTypeError where
  typ : AV
def TUnhashableTypeError.cs (x : TUnhashableTypeError) : List AV := [x.typ]
def TUnhashableTypeError.av (x : TUnhashableTypeError) : AV := .agg x.cs
def TUnhashableTypeError.zero : TUnhashableTypeError := ⟨.nilp⟩
def TUnhashableTypeError.z0 : List AV := [.nilp]

end Go.Proofs.Ytbdbnpnichkcjaa
