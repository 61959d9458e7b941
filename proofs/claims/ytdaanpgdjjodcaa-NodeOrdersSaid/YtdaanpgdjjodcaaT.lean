/- The program's structures, and how they lie in values (printed by gen.lean). -/
import Derived.Test.YtdaanpgdjjodcaaG1
namespace Go.Proofs.Ytdaanpgdjjodcaa
open Go.RowKit
theorem mixed : Try.prog.follows .mixedOrders = true := by kernel_rfl
structure TSnNight where
  On : Int
  Off : Int
def TSnNight.cs (x : TSnNight) : List AV := [.int .i64 x.On, .int .i64 x.Off]
def TSnNight.av (x : TSnNight) : AV := .agg x.cs
def TSnNight.zero : TSnNight := ⟨0, 0⟩
def TSnNight.z0 : List AV := [.lit .i64 0, .lit .i64 0]

structure TNdSet where
  Floor : Int
  Core : TSnNight
  Default : TSnNight
  Hold : Int
  CellOn : Int
  CellOff : Int
def TNdSet.cs (x : TNdSet) : List AV := [.int .i64 x.Floor, .int .i64 x.Core.On, .int .i64 x.Core.Off, .int .i64 x.Default.On, .int .i64 x.Default.Off, .int .i64 x.Hold, .int .i64 x.CellOn, .int .i64 x.CellOff]
def TNdSet.av (x : TNdSet) : AV := .agg x.cs
def TNdSet.zero : TNdSet := ⟨0, TSnNight.zero, TSnNight.zero, 0, 0, 0⟩
def TNdSet.z0 : List AV := [.lit .i64 0, .lit .i64 0, .lit .i64 0, .lit .i64 0, .lit .i64 0, .lit .i64 0, .lit .i64 0, .lit .i64 0]

structure TNdPlan where
  First : Int
  Nights : List TSnNight
def TNdPlan.cs (x : TNdPlan) : List AV := [.int .i64 x.First, .slc 3 (List.map TSnNight.av x.Nights)]
def TNdPlan.av (x : TNdPlan) : AV := .agg x.cs
def TNdPlan.zero : TNdPlan := ⟨0, []⟩
def TNdPlan.z0 : List AV := [.lit .i64 0, .slc 0 []]

structure TNdHold where
  From : Int
  Until : Int
  Level : Int
def TNdHold.cs (x : TNdHold) : List AV := [.int .i64 x.From, .int .i64 x.Until, .int .i64 x.Level]
def TNdHold.av (x : TNdHold) : AV := .agg x.cs
def TNdHold.zero : TNdHold := ⟨0, 0, 0⟩
def TNdHold.z0 : List AV := [.lit .i64 0, .lit .i64 0, .lit .i64 0]

structure TNdState where
  Numbers0 : Int
  Numbers1 : Int
  Numbers2 : Int
  Numbers3 : Int
  Numbers4 : Int
  Numbers5 : Int
  Clock : Bool
  Time : Int
  Plan : TNdPlan
  Dim : TNdHold
  Force : TNdHold
  Version : Int
  Broken : Bool
  Dark : Bool
  Level : Int
  Count : Int
def TNdState.cs (x : TNdState) : List AV := [.int .i64 x.Numbers0, .int .i64 x.Numbers1, .int .i64 x.Numbers2, .int .i64 x.Numbers3, .int .i64 x.Numbers4, .int .i64 x.Numbers5, .bool x.Clock, .int .i64 x.Time, .int .i64 x.Plan.First, .slc 3 (List.map TSnNight.av x.Plan.Nights), .int .i64 x.Dim.From, .int .i64 x.Dim.Until, .int .i64 x.Dim.Level, .int .i64 x.Force.From, .int .i64 x.Force.Until, .int .i64 x.Force.Level, .int .i64 x.Version, .bool x.Broken, .bool x.Dark, .int .i64 x.Level, .int .i64 x.Count]
def TNdState.av (x : TNdState) : AV := .agg x.cs
def TNdState.zero : TNdState := ⟨0, 0, 0, 0, 0, 0, false, 0, TNdPlan.zero, TNdHold.zero, TNdHold.zero, 0, false, false, 0, 0⟩
def TNdState.z0 : List AV := [.lit .i64 0, .lit .i64 0, .lit .i64 0, .lit .i64 0, .lit .i64 0, .lit .i64 0, .ff, .lit .i64 0, .lit .i64 0, .slc 0 [], .lit .i64 0, .lit .i64 0, .lit .i64 0, .lit .i64 0, .lit .i64 0, .lit .i64 0, .lit .i64 0, .ff, .ff, .lit .i64 0, .lit .i64 0]

structure TNdMessage where
  Kind : Int
  Number : Int
  Time : Int
  Plan : TNdPlan
  Hold : TNdHold
  Version : Int
def TNdMessage.cs (x : TNdMessage) : List AV := [.int .i64 x.Kind, .int .i64 x.Number, .int .i64 x.Time, .int .i64 x.Plan.First, .slc 3 (List.map TSnNight.av x.Plan.Nights), .int .i64 x.Hold.From, .int .i64 x.Hold.Until, .int .i64 x.Hold.Level, .int .i64 x.Version]
def TNdMessage.av (x : TNdMessage) : AV := .agg x.cs
def TNdMessage.zero : TNdMessage := ⟨0, 0, 0, TNdPlan.zero, TNdHold.zero, 0⟩
def TNdMessage.z0 : List AV := [.lit .i64 0, .lit .i64 0, .lit .i64 0, .lit .i64 0, .slc 0 [], .lit .i64 0, .lit .i64 0, .lit .i64 0, .lit .i64 0]

structure TNdEvent where
  Kind : Int
  Message : TNdMessage
  Seconds : Int
  Light : Int
def TNdEvent.cs (x : TNdEvent) : List AV := [.int .i64 x.Kind, .int .i64 x.Message.Kind, .int .i64 x.Message.Number, .int .i64 x.Message.Time, .int .i64 x.Message.Plan.First, .slc 3 (List.map TSnNight.av x.Message.Plan.Nights), .int .i64 x.Message.Hold.From, .int .i64 x.Message.Hold.Until, .int .i64 x.Message.Hold.Level, .int .i64 x.Message.Version, .int .i64 x.Seconds, .int .i64 x.Light]
def TNdEvent.av (x : TNdEvent) : AV := .agg x.cs
def TNdEvent.zero : TNdEvent := ⟨0, TNdMessage.zero, 0, 0⟩
def TNdEvent.z0 : List AV := [.lit .i64 0, .lit .i64 0, .lit .i64 0, .lit .i64 0, .lit .i64 0, .slc 0 [], .lit .i64 0, .lit .i64 0, .lit .i64 0, .lit .i64 0, .lit .i64 0, .lit .i64 0]

structure TPost where
  Messages : List TNdMessage
  Swaps : List (Int × Int)
def TPost.cs (x : TPost) : List AV := [.slc 3 (List.map TNdMessage.av x.Messages), .slc 3 (List.map (fun x => .agg [.int .u8 x.1, .int .u8 x.2]) x.Swaps)]
def TPost.av (x : TPost) : AV := .agg x.cs
def TPost.zero : TPost := ⟨[], []⟩
def TPost.z0 : List AV := [.slc 0 [], .slc 0 []]

structure TNdReport where
  Count : Int
  Level : Int
  Version : Int
  Good : Bool
def TNdReport.cs (x : TNdReport) : List AV := [.int .i64 x.Count, .int .i64 x.Level, .int .i64 x.Version, .bool x.Good]
def TNdReport.av (x : TNdReport) : AV := .agg x.cs
def TNdReport.zero : TNdReport := ⟨0, 0, 0, false⟩
def TNdReport.z0 : List AV := [.lit .i64 0, .lit .i64 0, .lit .i64 0, .ff]

structure TSent where
  Node : Int
  R : TNdReport
def TSent.cs (x : TSent) : List AV := [.int .i64 x.Node, .int .i64 x.R.Count, .int .i64 x.R.Level, .int .i64 x.R.Version, .bool x.R.Good]
def TSent.av (x : TSent) : AV := .agg x.cs
def TSent.zero : TSent := ⟨0, TNdReport.zero⟩
def TSent.z0 : List AV := [.lit .i64 0, .lit .i64 0, .lit .i64 0, .lit .i64 0, .ff]

structure TNode where
  NdState : TNdState
  set' : TNdSet
def TNode.cs (x : TNode) : List AV := [.int .i64 x.NdState.Numbers0, .int .i64 x.NdState.Numbers1, .int .i64 x.NdState.Numbers2, .int .i64 x.NdState.Numbers3, .int .i64 x.NdState.Numbers4, .int .i64 x.NdState.Numbers5, .bool x.NdState.Clock, .int .i64 x.NdState.Time, .int .i64 x.NdState.Plan.First, .slc 3 (List.map TSnNight.av x.NdState.Plan.Nights), .int .i64 x.NdState.Dim.From, .int .i64 x.NdState.Dim.Until, .int .i64 x.NdState.Dim.Level, .int .i64 x.NdState.Force.From, .int .i64 x.NdState.Force.Until, .int .i64 x.NdState.Force.Level, .int .i64 x.NdState.Version, .bool x.NdState.Broken, .bool x.NdState.Dark, .int .i64 x.NdState.Level, .int .i64 x.NdState.Count, .int .i64 x.set'.Floor, .int .i64 x.set'.Core.On, .int .i64 x.set'.Core.Off, .int .i64 x.set'.Default.On, .int .i64 x.set'.Default.Off, .int .i64 x.set'.Hold, .int .i64 x.set'.CellOn, .int .i64 x.set'.CellOff]
def TNode.av (x : TNode) : AV := .agg x.cs
def TNode.zero : TNode := ⟨TNdState.zero, TNdSet.zero⟩
def TNode.z0 : List AV := [.lit .i64 0, .lit .i64 0, .lit .i64 0, .lit .i64 0, .lit .i64 0, .lit .i64 0, .ff, .lit .i64 0, .lit .i64 0, .slc 0 [], .lit .i64 0, .lit .i64 0, .lit .i64 0, .lit .i64 0, .lit .i64 0, .lit .i64 0, .lit .i64 0, .ff, .ff, .lit .i64 0, .lit .i64 0, .lit .i64 0, .lit .i64 0, .lit .i64 0, .lit .i64 0, .lit .i64 0, .lit .i64 0, .lit .i64 0, .lit .i64 0]

structure TBoundsError where
  x : Int
  y : Int
  signed : Bool
  code : Int
def TBoundsError.cs (x : TBoundsError) : List AV := [.int .i64 x.x, .int .i64 x.y, .bool x.signed, .int .u8 x.code]
def TBoundsError.av (x : TBoundsError) : AV := .agg x.cs
def TBoundsError.zero : TBoundsError := ⟨0, 0, false, 0⟩
def TBoundsError.z0 : List AV := [.lit .i64 0, .lit .i64 0, .ff, .lit .u8 0]

structure TErrorAddressString where
  msg : ByteArray
  addr : Int
def TErrorAddressString.cs (x : TErrorAddressString) : List AV := [.str x.msg, .int .u64 x.addr]
def TErrorAddressString.av (x : TErrorAddressString) : AV := .agg x.cs
def TErrorAddressString.zero : TErrorAddressString := ⟨default, 0⟩
def TErrorAddressString.z0 : List AV := [.undef, .lit .u64 0]

structure TTypeAssertionError where
  _interface : AV
  concrete : AV
  asserted : AV
  missingMethod : ByteArray
def TTypeAssertionError.cs (x : TTypeAssertionError) : List AV := [x._interface, x.concrete, x.asserted, .str x.missingMethod]
def TTypeAssertionError.av (x : TTypeAssertionError) : AV := .agg x.cs
def TTypeAssertionError.zero : TTypeAssertionError := ⟨.nilp, .nilp, .nilp, default⟩
def TTypeAssertionError.z0 : List AV := [.nilp, .nilp, .nilp, .undef]

structure TPanicNilError where
def TPanicNilError.cs (x : TPanicNilError) : List AV := []
def TPanicNilError.av (x : TPanicNilError) : AV := .agg x.cs
def TPanicNilError.zero : TPanicNilError := ⟨⟩
def TPanicNilError.z0 : List AV := []

structure TType where
  Size_ : Int
  PtrBytes : Int
  Hash : Int
  TFlag : Int
  Align_ : Int
  FieldAlign_ : Int
  Kind_ : Int
  Equal : AV
  GCData : AV
  Str : Int
  PtrToThis : Int
def TType.cs (x : TType) : List AV := [.int .u64 x.Size_, .int .u64 x.PtrBytes, .int .u32 x.Hash, .int .u8 x.TFlag, .int .u8 x.Align_, .int .u8 x.FieldAlign_, .int .u8 x.Kind_, x.Equal, x.GCData, .int .i32 x.Str, .int .i32 x.PtrToThis]
def TType.av (x : TType) : AV := .agg x.cs
def TType.zero : TType := ⟨0, 0, 0, 0, 0, 0, 0, .nilfn, .nilp, 0, 0⟩
def TType.z0 : List AV := [.lit .u64 0, .lit .u64 0, .lit .u32 0, .lit .u8 0, .lit .u8 0, .lit .u8 0, .lit .u8 0, .nilfn, .nilp, .lit .i32 0, .lit .i32 0]

structure TUnhashableTypeError where
  typ : AV
def TUnhashableTypeError.cs (x : TUnhashableTypeError) : List AV := [x.typ]
def TUnhashableTypeError.av (x : TUnhashableTypeError) : AV := .agg x.cs
def TUnhashableTypeError.zero : TUnhashableTypeError := ⟨.nilp⟩
def TUnhashableTypeError.z0 : List AV := [.nilp]

end Go.Proofs.Ytdaanpgdjjodcaa
