/- Texts of this claim, merged: Sxp CardM SxC Pen KmpA Find Bet EnvP Slc About Slc4 Shelf Num IdxF NvtQ AnsP Trm Arg2 CardN NumD MouP. -/
import Derived.Test.YtflmckoolagikaaDoorPm1
import Derived.WalkKit
import Derived.WalkSpells
import Derived.WalkLawsBesides
import Derived.Handy
import Derived.Lib.Hide
import Derived.Laws.BitsAllLaws
import Derived.Deep.MidRow
import Derived.Deep.WholeRow
import Derived.BigQuiet
import Derived.Laws.CopyOwn
import Derived.Deep.QuietTactic
import Derived.Laws.AppendOwnNone
import Derived.Laws.MakeOwn
import Derived.Laws.IdiomStrings
import Derived.OrdersHeld
import Derived.Lib.SliceRun
import Derived.ChangeKeysEq
import Derived.Laws.CopyRow
import Derived.Test.YtflmckoolagikaaDoorRows
import Derived.ProofKit
import Derived.OpenShut
import Derived.JoinedCond
import Derived.SliceStrings
import Derived.Test.YtflmckoolagikaaDoorCards
import Derived.Test.YtflmckoolagikaaDoorTie
import Derived.Deep.DeepHandedRow
import Derived.Shelf.Vars
import Derived.Lib.AppendStr
import Derived.ArgAppend
import Derived.Lib.Replace
import Derived.Shelf.Strings.Builder1
import Derived.Shelf.Strings.Builder2
import Derived.Shelf.Strings.OnBuilder
import Derived.Shelf.Strings.Trim
import Derived.Shelf.Small.Utf8
import Derived.Shelf.Small.Strs
import Derived.Shelf.Strings.BuilderF
import Derived.Shelf.Strconv.Atoi
import Derived.Shelf.Strconv.Itoa0
import Derived.Shelf.Strconv.Itoa1
import Derived.Shelf.LaysM
import Derived.Shelf.Strconv.Itoa2
import Derived.Shelf.Strconv.Itoa3
import Derived.Shelf.Strconv.AtoiErrFast
import Derived.Shelf.Strconv.ParseIntEmpty
import Derived.Shelf.Strconv.AtoiFail
import Derived.Shelf.Strconv.Clone
import Derived.Shelf.Strconv.SyntaxError
import Derived.Shelf.LaysC
import Derived.Shelf.Strconv.ToError
import Derived.Shelf.Strconv.AtoiErr
import Derived.Shelf.Strconv.Lower
import Derived.Shelf.Strconv.ParseUint10
import Derived.Shelf.Strconv.ParseUint10Empty
import Derived.Shelf.Strconv.ParseUint10Any
import Derived.Shelf.Strconv.ParseInt10
import Derived.Shelf.Strconv.AtoiLong
import Derived.Shelf.Strconv.AtoiInnerAll
import Derived.Shelf.Strconv.RangeError
import Derived.Shelf.Strconv.ToErrorRange
import Derived.Shelf.Strconv.AtoiAll
import Derived.Shelf.Strconv.ErrVarAll
import Derived.Shelf.Strings.Search1
import Derived.Shelf.Strings.Search2
import Derived.Shelf.Strings.Search3
import Derived.Shelf.Strings.Count
import Derived.Shelf.Strings.Shaped
import Derived.Shelf.Strings.Prefix
import Derived.Shelf.Strings.Split
import Derived.Shelf.Strings.Replace
import Derived.Shelf.Strings.SplitShaped
import Derived.Shelf.Strings.Runes
import Derived.Shelf.Strings.AsciiSet
import Derived.Shelf.Bits.Mul64
import Derived.Shelf.Strings.Repeat
import Derived.Shelf.Unicode.DecodeSlow
import Derived.Shelf.Unicode.DecodeAny
import Derived.Shelf.Slices.Equal
import Derived.Shelf.Unicode.ValidAny
import Derived.Test.YtflmckoolagikaaDoorProg
import Derived.Lib.ItoaNum
import Derived.Lib.IndexMore
import Derived.Lib.Join
import Derived.Lib.IndexLaws
import Derived.Lib.SplitLaws
import Derived.Lib.AppendIntMem
import Derived.Lib.LaidU8
section
namespace Go.Proofs.YtflmckoolagikaaDoor
open Go Go.RowKit Go.Fw Go.Sx
set_option maxRecDepth 100000
instance : Wide Tryd.prog := ⟨by kernel_rfl⟩
instance : Sc Tryd.prog 1 := ⟨_, Tryd.underlying1, rfl, by kernel_rfl⟩
instance : ZeroT Tryd.prog 1 [.nilFunc] := ⟨.nilFunc, by kernel_rfl, .one rfl⟩
instance : Sc Tryd.prog 2 := ⟨_, Tryd.underlying2, rfl, by kernel_rfl⟩
instance : ZeroT Tryd.prog 2 [.int .i64 0] := ⟨.int .i64 0, by kernel_rfl, .one rfl⟩
instance : IntT Tryd.prog 2 .i64 := ⟨Tryd.underlying2⟩
instance : Sc Tryd.prog 3 := ⟨_, Tryd.underlying3, rfl, by kernel_rfl⟩
instance : ZeroT Tryd.prog 3 [.int .i64 0] := ⟨.int .i64 0, by kernel_rfl, .one rfl⟩
instance : IntT Tryd.prog 3 .i64 := ⟨Tryd.underlying3⟩
instance : Sc Tryd.prog 4 := ⟨_, Tryd.underlying4, rfl, by kernel_rfl⟩
instance : ZeroT Tryd.prog 4 [.bool false] := ⟨.bool false, by kernel_rfl, .one rfl⟩
instance : Sc Tryd.prog 5 := ⟨_, Tryd.underlying5, rfl, by kernel_rfl⟩
instance : ZeroT Tryd.prog 5 [.int .u8 0] := ⟨.int .u8 0, by kernel_rfl, .one rfl⟩
instance : IntT Tryd.prog 5 .u8 := ⟨Tryd.underlying5⟩
instance : Sc Tryd.prog 6 := ⟨_, Tryd.underlying6, rfl, by kernel_rfl⟩
instance : ZeroT Tryd.prog 6 [.int .u8 0] := ⟨.int .u8 0, by kernel_rfl, .one rfl⟩
instance : IntT Tryd.prog 6 .u8 := ⟨Tryd.underlying6⟩
instance : Ag Tryd.prog 7 4 := ⟨_, Tryd.underlying7, rfl, by kernel_rfl⟩
instance : FieldAt Tryd.prog 7 0 0 := ⟨_, _, 0, Tryd.underlying7, rfl, rfl, by kernel_rfl⟩
instance : FieldAt Tryd.prog 7 1 1 := ⟨_, _, 0, Tryd.underlying7, rfl, rfl, by kernel_rfl⟩
instance : FieldAt Tryd.prog 7 2 2 := ⟨_, _, 0, Tryd.underlying7, rfl, rfl, by kernel_rfl⟩
instance : FieldAt Tryd.prog 7 3 3 := ⟨_, _, 0, Tryd.underlying7, rfl, rfl, by kernel_rfl⟩
instance : OffsT Tryd.prog 7 [(0, 1), (1, 1), (2, 1), (3, 1)] [.int .i64 0, .int .i64 0, .bool false, .int .u8 0] := ⟨(([(0, 1), (1, 1), (2, 1), (3, 1)] : List (Nat × Nat)).toArray[·]?), fun _ => by kernel_rfl, fun i p h => by simpa using h⟩
instance : ZeroT Tryd.prog 7 [.int .i64 0, .int .i64 0, .bool false, .int .u8 0] := ⟨_, show still Tryd.prog (zeroValue 7) = some (.agg (List.toArray [.int .i64 0, .int .i64 0, .bool false, .int .u8 0])) by kernel_rfl, .agg _⟩
instance : Ag Tryd.prog 8 4 := ⟨_, Tryd.underlying8, rfl, by kernel_rfl⟩
instance : FieldAt Tryd.prog 8 0 0 := ⟨_, _, 0, Tryd.underlying8, rfl, rfl, by kernel_rfl⟩
instance : FieldAt Tryd.prog 8 1 1 := ⟨_, _, 0, Tryd.underlying8, rfl, rfl, by kernel_rfl⟩
instance : FieldAt Tryd.prog 8 2 2 := ⟨_, _, 0, Tryd.underlying8, rfl, rfl, by kernel_rfl⟩
instance : FieldAt Tryd.prog 8 3 3 := ⟨_, _, 0, Tryd.underlying8, rfl, rfl, by kernel_rfl⟩
instance : OffsT Tryd.prog 8 [(0, 1), (1, 1), (2, 1), (3, 1)] [.int .i64 0, .int .i64 0, .bool false, .int .u8 0] := ⟨(([(0, 1), (1, 1), (2, 1), (3, 1)] : List (Nat × Nat)).toArray[·]?), fun _ => by kernel_rfl, fun i p h => by simpa using h⟩
instance : ZeroT Tryd.prog 8 [.int .i64 0, .int .i64 0, .bool false, .int .u8 0] := ⟨_, show still Tryd.prog (zeroValue 8) = some (.agg (List.toArray [.int .i64 0, .int .i64 0, .bool false, .int .u8 0])) by kernel_rfl, .agg _⟩
instance : Sc Tryd.prog 9 := ⟨_, Tryd.underlying9, rfl, by kernel_rfl⟩
instance : ZeroT Tryd.prog 9 [.string .empty] := ⟨.string .empty, by kernel_rfl, .one rfl⟩
instance : StrT Tryd.prog 9 := ⟨Tryd.underlying9⟩
instance : Sc Tryd.prog 10 := ⟨_, Tryd.underlying10, rfl, by kernel_rfl⟩
instance : ZeroT Tryd.prog 10 [.string .empty] := ⟨.string .empty, by kernel_rfl, .one rfl⟩
instance : StrT Tryd.prog 10 := ⟨Tryd.underlying10⟩
instance : Sc Tryd.prog 11 := ⟨_, Tryd.underlying11, rfl, by kernel_rfl⟩
instance : ZeroT Tryd.prog 11 [.string .empty] := ⟨.string .empty, by kernel_rfl, .one rfl⟩
instance : StrT Tryd.prog 11 := ⟨Tryd.underlying11⟩
instance : Sc Tryd.prog 12 := ⟨_, Tryd.underlying12, rfl, by kernel_rfl⟩
instance : ZeroT Tryd.prog 12 [.int .u64 0] := ⟨.int .u64 0, by kernel_rfl, .one rfl⟩
instance : IntT Tryd.prog 12 .u64 := ⟨Tryd.underlying12⟩
instance : Ag Tryd.prog 13 2 := ⟨_, Tryd.underlying13, rfl, by kernel_rfl⟩
instance : FieldAt Tryd.prog 13 0 0 := ⟨_, _, 0, Tryd.underlying13, rfl, rfl, by kernel_rfl⟩
instance : FieldAt Tryd.prog 13 1 1 := ⟨_, _, 0, Tryd.underlying13, rfl, rfl, by kernel_rfl⟩
instance : OffsT Tryd.prog 13 [(0, 1), (1, 1)] [.string .empty, .int .u64 0] := ⟨(([(0, 1), (1, 1)] : List (Nat × Nat)).toArray[·]?), fun _ => by kernel_rfl, fun i p h => by simpa using h⟩
instance : ZeroT Tryd.prog 13 [.string .empty, .int .u64 0] := ⟨_, show still Tryd.prog (zeroValue 13) = some (.agg (List.toArray [.string .empty, .int .u64 0])) by kernel_rfl, .agg _⟩
instance : Ag Tryd.prog 14 2 := ⟨_, Tryd.underlying14, rfl, by kernel_rfl⟩
instance : FieldAt Tryd.prog 14 0 0 := ⟨_, _, 0, Tryd.underlying14, rfl, rfl, by kernel_rfl⟩
instance : FieldAt Tryd.prog 14 1 1 := ⟨_, _, 0, Tryd.underlying14, rfl, rfl, by kernel_rfl⟩
instance : OffsT Tryd.prog 14 [(0, 1), (1, 1)] [.string .empty, .int .u64 0] := ⟨(([(0, 1), (1, 1)] : List (Nat × Nat)).toArray[·]?), fun _ => by kernel_rfl, fun i p h => by simpa using h⟩
instance : ZeroT Tryd.prog 14 [.string .empty, .int .u64 0] := ⟨_, show still Tryd.prog (zeroValue 14) = some (.agg (List.toArray [.string .empty, .int .u64 0])) by kernel_rfl, .agg _⟩
instance : Sc Tryd.prog 15 := ⟨_, Tryd.underlying15, rfl, by kernel_rfl⟩
instance : ZeroT Tryd.prog 15 [.pointer none] := ⟨.pointer none, by kernel_rfl, .one rfl⟩
instance : Sc Tryd.prog 16 := ⟨_, Tryd.underlying16, rfl, by kernel_rfl⟩
instance : ZeroT Tryd.prog 16 [.pointer none] := ⟨.pointer none, by kernel_rfl, .one rfl⟩
instance : Sc Tryd.prog 17 := ⟨_, Tryd.underlying17, rfl, by kernel_rfl⟩
instance : ZeroT Tryd.prog 17 [.pointer none] := ⟨.pointer none, by kernel_rfl, .one rfl⟩
instance : Ag Tryd.prog 18 1 := ⟨_, Tryd.underlying18, rfl, by kernel_rfl⟩
instance : FieldAt Tryd.prog 18 0 0 := ⟨_, _, 0, Tryd.underlying18, rfl, rfl, by kernel_rfl⟩
instance : OffsT Tryd.prog 18 [(0, 1)] [.pointer none] := ⟨(([(0, 1)] : List (Nat × Nat)).toArray[·]?), fun _ => by kernel_rfl, fun i p h => by simpa using h⟩
instance : ZeroT Tryd.prog 18 [.pointer none] := ⟨_, show still Tryd.prog (zeroValue 18) = some (.agg (List.toArray [.pointer none])) by kernel_rfl, .agg _⟩
instance : Ag Tryd.prog 19 1 := ⟨_, Tryd.underlying19, rfl, by kernel_rfl⟩
instance : FieldAt Tryd.prog 19 0 0 := ⟨_, _, 0, Tryd.underlying19, rfl, rfl, by kernel_rfl⟩
instance : OffsT Tryd.prog 19 [(0, 1)] [.pointer none] := ⟨(([(0, 1)] : List (Nat × Nat)).toArray[·]?), fun _ => by kernel_rfl, fun i p h => by simpa using h⟩
instance : ZeroT Tryd.prog 19 [.pointer none] := ⟨_, show still Tryd.prog (zeroValue 19) = some (.agg (List.toArray [.pointer none])) by kernel_rfl, .agg _⟩
instance : Sc Tryd.prog 20 := ⟨_, Tryd.underlying20, rfl, by kernel_rfl⟩
instance : ZeroT Tryd.prog 20 [.nilIface] := ⟨.nilIface, by kernel_rfl, .one rfl⟩
instance : Sc Tryd.prog 21 := ⟨_, Tryd.underlying21, rfl, by kernel_rfl⟩
instance : ZeroT Tryd.prog 21 [.int .i32 0] := ⟨.int .i32 0, by kernel_rfl, .one rfl⟩
instance : IntT Tryd.prog 21 .i32 := ⟨Tryd.underlying21⟩
instance : Ag Tryd.prog 22 5 := ⟨_, Tryd.underlying22, rfl, by kernel_rfl⟩
instance : FieldAt Tryd.prog 22 0 0 := ⟨_, _, 0, Tryd.underlying22, rfl, rfl, by kernel_rfl⟩
instance : FieldAt Tryd.prog 22 1 1 := ⟨_, _, 0, Tryd.underlying22, rfl, rfl, by kernel_rfl⟩
instance : FieldAt Tryd.prog 22 2 2 := ⟨_, _, 0, Tryd.underlying22, rfl, rfl, by kernel_rfl⟩
instance : FieldAt Tryd.prog 22 3 3 := ⟨_, _, 0, Tryd.underlying22, rfl, rfl, by kernel_rfl⟩
instance : FieldAt Tryd.prog 22 4 4 := ⟨_, _, 0, Tryd.underlying22, rfl, rfl, by kernel_rfl⟩
instance : OffsT Tryd.prog 22 [(0, 1), (1, 1), (2, 1), (3, 1), (4, 1)] [.int .i64 0, .int .i64 0, .string .empty, .string .empty, .string .empty] := ⟨(([(0, 1), (1, 1), (2, 1), (3, 1), (4, 1)] : List (Nat × Nat)).toArray[·]?), fun _ => by kernel_rfl, fun i p h => by simpa using h⟩
instance : ZeroT Tryd.prog 22 [.int .i64 0, .int .i64 0, .string .empty, .string .empty, .string .empty] := ⟨_, show still Tryd.prog (zeroValue 22) = some (.agg (List.toArray [.int .i64 0, .int .i64 0, .string .empty, .string .empty, .string .empty])) by kernel_rfl, .agg _⟩
instance : Ag Tryd.prog 23 5 := ⟨_, Tryd.underlying23, rfl, by kernel_rfl⟩
instance : FieldAt Tryd.prog 23 0 0 := ⟨_, _, 0, Tryd.underlying23, rfl, rfl, by kernel_rfl⟩
instance : FieldAt Tryd.prog 23 1 1 := ⟨_, _, 0, Tryd.underlying23, rfl, rfl, by kernel_rfl⟩
instance : FieldAt Tryd.prog 23 2 2 := ⟨_, _, 0, Tryd.underlying23, rfl, rfl, by kernel_rfl⟩
instance : FieldAt Tryd.prog 23 3 3 := ⟨_, _, 0, Tryd.underlying23, rfl, rfl, by kernel_rfl⟩
instance : FieldAt Tryd.prog 23 4 4 := ⟨_, _, 0, Tryd.underlying23, rfl, rfl, by kernel_rfl⟩
instance : OffsT Tryd.prog 23 [(0, 1), (1, 1), (2, 1), (3, 1), (4, 1)] [.int .i64 0, .int .i64 0, .string .empty, .string .empty, .string .empty] := ⟨(([(0, 1), (1, 1), (2, 1), (3, 1), (4, 1)] : List (Nat × Nat)).toArray[·]?), fun _ => by kernel_rfl, fun i p h => by simpa using h⟩
instance : ZeroT Tryd.prog 23 [.int .i64 0, .int .i64 0, .string .empty, .string .empty, .string .empty] := ⟨_, show still Tryd.prog (zeroValue 23) = some (.agg (List.toArray [.int .i64 0, .int .i64 0, .string .empty, .string .empty, .string .empty])) by kernel_rfl, .agg _⟩
instance : Sc Tryd.prog 24 := ⟨_, Tryd.underlying24, rfl, by kernel_rfl⟩
instance : ZeroT Tryd.prog 24 [.slice none 0 0] := ⟨.slice none 0 0, by kernel_rfl, .one rfl⟩
instance : SliceT Tryd.prog 24 3 1 8 := ⟨Tryd.underlying24, by decide, by decide, .int .i64 0, by kernel_rfl, by kernel_rfl⟩
instance : Sc Tryd.prog 25 := ⟨_, Tryd.underlying25, rfl, by kernel_rfl⟩
instance : ZeroT Tryd.prog 25 [.slice none 0 0] := ⟨.slice none 0 0, by kernel_rfl, .one rfl⟩
instance : SliceT Tryd.prog 25 35 6 80 := ⟨Tryd.underlying25, by decide, by decide, .agg #[.int .i64 0, .int .i64 0, .int .i64 0, .string .empty, .slice none 0 0, .string .empty], by kernel_rfl, by kernel_rfl⟩
instance : Sc Tryd.prog 26 := ⟨_, Tryd.underlying26, rfl, by kernel_rfl⟩
instance : ZeroT Tryd.prog 26 [.int .i64 0] := ⟨.int .i64 0, by kernel_rfl, .one rfl⟩
instance : IntT Tryd.prog 26 .i64 := ⟨Tryd.underlying26⟩
instance : Sc Tryd.prog 28 := ⟨_, Tryd.underlying28, rfl, by kernel_rfl⟩
instance : ZeroT Tryd.prog 28 [.nilFunc] := ⟨.nilFunc, by kernel_rfl, .one rfl⟩
instance : Sc Tryd.prog 29 := ⟨_, Tryd.underlying29, rfl, by kernel_rfl⟩
instance : ZeroT Tryd.prog 29 [.nilFunc] := ⟨.nilFunc, by kernel_rfl, .one rfl⟩
instance : Sc Tryd.prog 31 := ⟨_, Tryd.underlying31, rfl, by kernel_rfl⟩
instance : ZeroT Tryd.prog 31 [.nilFunc] := ⟨.nilFunc, by kernel_rfl, .one rfl⟩
instance : Sc Tryd.prog 32 := ⟨_, Tryd.underlying32, rfl, by kernel_rfl⟩
instance : ZeroT Tryd.prog 32 [.nilFunc] := ⟨.nilFunc, by kernel_rfl, .one rfl⟩
instance : Sc Tryd.prog 33 := ⟨_, Tryd.underlying33, rfl, by kernel_rfl⟩
instance : ZeroT Tryd.prog 33 [.nilFunc] := ⟨.nilFunc, by kernel_rfl, .one rfl⟩
instance : Ag Tryd.prog 34 6 := ⟨_, Tryd.underlying34, rfl, by kernel_rfl⟩
instance : FieldAt Tryd.prog 34 0 0 := ⟨_, _, 0, Tryd.underlying34, rfl, rfl, by kernel_rfl⟩
instance : FieldAt Tryd.prog 34 1 1 := ⟨_, _, 0, Tryd.underlying34, rfl, rfl, by kernel_rfl⟩
instance : FieldAt Tryd.prog 34 2 2 := ⟨_, _, 0, Tryd.underlying34, rfl, rfl, by kernel_rfl⟩
instance : FieldAt Tryd.prog 34 3 3 := ⟨_, _, 0, Tryd.underlying34, rfl, rfl, by kernel_rfl⟩
instance : FieldAt Tryd.prog 34 4 4 := ⟨_, _, 0, Tryd.underlying34, rfl, rfl, by kernel_rfl⟩
instance : FieldAt Tryd.prog 34 5 5 := ⟨_, _, 0, Tryd.underlying34, rfl, rfl, by kernel_rfl⟩
instance : OffsT Tryd.prog 34 [(0, 1), (1, 1), (2, 1), (3, 1), (4, 1), (5, 1)] [.int .i64 0, .int .i64 0, .int .i64 0, .string .empty, .slice none 0 0, .string .empty] := ⟨(([(0, 1), (1, 1), (2, 1), (3, 1), (4, 1), (5, 1)] : List (Nat × Nat)).toArray[·]?), fun _ => by kernel_rfl, fun i p h => by simpa using h⟩
instance : ZeroT Tryd.prog 34 [.int .i64 0, .int .i64 0, .int .i64 0, .string .empty, .slice none 0 0, .string .empty] := ⟨_, show still Tryd.prog (zeroValue 34) = some (.agg (List.toArray [.int .i64 0, .int .i64 0, .int .i64 0, .string .empty, .slice none 0 0, .string .empty])) by kernel_rfl, .agg _⟩
instance : Ag Tryd.prog 35 6 := ⟨_, Tryd.underlying35, rfl, by kernel_rfl⟩
instance : FieldAt Tryd.prog 35 0 0 := ⟨_, _, 0, Tryd.underlying35, rfl, rfl, by kernel_rfl⟩
instance : FieldAt Tryd.prog 35 1 1 := ⟨_, _, 0, Tryd.underlying35, rfl, rfl, by kernel_rfl⟩
instance : FieldAt Tryd.prog 35 2 2 := ⟨_, _, 0, Tryd.underlying35, rfl, rfl, by kernel_rfl⟩
instance : FieldAt Tryd.prog 35 3 3 := ⟨_, _, 0, Tryd.underlying35, rfl, rfl, by kernel_rfl⟩
instance : FieldAt Tryd.prog 35 4 4 := ⟨_, _, 0, Tryd.underlying35, rfl, rfl, by kernel_rfl⟩
instance : FieldAt Tryd.prog 35 5 5 := ⟨_, _, 0, Tryd.underlying35, rfl, rfl, by kernel_rfl⟩
instance : OffsT Tryd.prog 35 [(0, 1), (1, 1), (2, 1), (3, 1), (4, 1), (5, 1)] [.int .i64 0, .int .i64 0, .int .i64 0, .string .empty, .slice none 0 0, .string .empty] := ⟨(([(0, 1), (1, 1), (2, 1), (3, 1), (4, 1), (5, 1)] : List (Nat × Nat)).toArray[·]?), fun _ => by kernel_rfl, fun i p h => by simpa using h⟩
instance : ZeroT Tryd.prog 35 [.int .i64 0, .int .i64 0, .int .i64 0, .string .empty, .slice none 0 0, .string .empty] := ⟨_, show still Tryd.prog (zeroValue 35) = some (.agg (List.toArray [.int .i64 0, .int .i64 0, .int .i64 0, .string .empty, .slice none 0 0, .string .empty])) by kernel_rfl, .agg _⟩
instance : Sc Tryd.prog 37 := ⟨_, Tryd.underlying37, rfl, by kernel_rfl⟩
instance : ZeroT Tryd.prog 37 [.nilFunc] := ⟨.nilFunc, by kernel_rfl, .one rfl⟩
instance : Sc Tryd.prog 38 := ⟨_, Tryd.underlying38, rfl, by kernel_rfl⟩
instance : ZeroT Tryd.prog 38 [.nilFunc] := ⟨.nilFunc, by kernel_rfl, .one rfl⟩
instance : Sc Tryd.prog 39 := ⟨_, Tryd.underlying39, rfl, by kernel_rfl⟩
instance : ZeroT Tryd.prog 39 [.nilFunc] := ⟨.nilFunc, by kernel_rfl, .one rfl⟩
instance : Ag Tryd.prog 40 5 := ⟨_, Tryd.underlying40, rfl, by kernel_rfl⟩
instance : FieldAt Tryd.prog 40 0 0 := ⟨_, _, 0, Tryd.underlying40, rfl, rfl, by kernel_rfl⟩
instance : FieldAt Tryd.prog 40 1 1 := ⟨_, _, 0, Tryd.underlying40, rfl, rfl, by kernel_rfl⟩
instance : FieldAt Tryd.prog 40 2 2 := ⟨_, _, 0, Tryd.underlying40, rfl, rfl, by kernel_rfl⟩
instance : FieldAt Tryd.prog 40 3 3 := ⟨_, _, 0, Tryd.underlying40, rfl, rfl, by kernel_rfl⟩
instance : FieldAt Tryd.prog 40 4 4 := ⟨_, _, 0, Tryd.underlying40, rfl, rfl, by kernel_rfl⟩
instance : OffsT Tryd.prog 40 [(0, 1), (1, 1), (2, 1), (3, 1), (4, 1)] [.int .i64 0, .int .i64 0, .int .i64 0, .int .i64 0, .bool false] := ⟨(([(0, 1), (1, 1), (2, 1), (3, 1), (4, 1)] : List (Nat × Nat)).toArray[·]?), fun _ => by kernel_rfl, fun i p h => by simpa using h⟩
instance : ZeroT Tryd.prog 40 [.int .i64 0, .int .i64 0, .int .i64 0, .int .i64 0, .bool false] := ⟨_, show still Tryd.prog (zeroValue 40) = some (.agg (List.toArray [.int .i64 0, .int .i64 0, .int .i64 0, .int .i64 0, .bool false])) by kernel_rfl, .agg _⟩
instance : Ag Tryd.prog 41 5 := ⟨_, Tryd.underlying41, rfl, by kernel_rfl⟩
instance : FieldAt Tryd.prog 41 0 0 := ⟨_, _, 0, Tryd.underlying41, rfl, rfl, by kernel_rfl⟩
instance : FieldAt Tryd.prog 41 1 1 := ⟨_, _, 0, Tryd.underlying41, rfl, rfl, by kernel_rfl⟩
instance : FieldAt Tryd.prog 41 2 2 := ⟨_, _, 0, Tryd.underlying41, rfl, rfl, by kernel_rfl⟩
instance : FieldAt Tryd.prog 41 3 3 := ⟨_, _, 0, Tryd.underlying41, rfl, rfl, by kernel_rfl⟩
instance : FieldAt Tryd.prog 41 4 4 := ⟨_, _, 0, Tryd.underlying41, rfl, rfl, by kernel_rfl⟩
instance : OffsT Tryd.prog 41 [(0, 1), (1, 1), (2, 1), (3, 1), (4, 1)] [.int .i64 0, .int .i64 0, .int .i64 0, .int .i64 0, .bool false] := ⟨(([(0, 1), (1, 1), (2, 1), (3, 1), (4, 1)] : List (Nat × Nat)).toArray[·]?), fun _ => by kernel_rfl, fun i p h => by simpa using h⟩
instance : ZeroT Tryd.prog 41 [.int .i64 0, .int .i64 0, .int .i64 0, .int .i64 0, .bool false] := ⟨_, show still Tryd.prog (zeroValue 41) = some (.agg (List.toArray [.int .i64 0, .int .i64 0, .int .i64 0, .int .i64 0, .bool false])) by kernel_rfl, .agg _⟩
instance : Sc Tryd.prog 43 := ⟨_, Tryd.underlying43, rfl, by kernel_rfl⟩
instance : ZeroT Tryd.prog 43 [.nilFunc] := ⟨.nilFunc, by kernel_rfl, .one rfl⟩
instance : Sc Tryd.prog 45 := ⟨_, Tryd.underlying45, rfl, by kernel_rfl⟩
instance : ZeroT Tryd.prog 45 [.nilFunc] := ⟨.nilFunc, by kernel_rfl, .one rfl⟩
instance : Sc Tryd.prog 46 := ⟨_, Tryd.underlying46, rfl, by kernel_rfl⟩
instance : ZeroT Tryd.prog 46 [.nilFunc] := ⟨.nilFunc, by kernel_rfl, .one rfl⟩
instance : Sc Tryd.prog 47 := ⟨_, Tryd.underlying47, rfl, by kernel_rfl⟩
instance : ZeroT Tryd.prog 47 [.slice none 0 0] := ⟨.slice none 0 0, by kernel_rfl, .one rfl⟩
instance : SliceT Tryd.prog 47 121 4 40 := ⟨Tryd.underlying47, by decide, by decide, .agg #[.string .empty, .string .empty, .bool false, .bool false], by kernel_rfl, by kernel_rfl⟩
instance : Sc Tryd.prog 48 := ⟨_, Tryd.underlying48, rfl, by kernel_rfl⟩
instance : ZeroT Tryd.prog 48 [.nilFunc] := ⟨.nilFunc, by kernel_rfl, .one rfl⟩
instance : Sc Tryd.prog 49 := ⟨_, Tryd.underlying49, rfl, by kernel_rfl⟩
instance : ZeroT Tryd.prog 49 [.nilFunc] := ⟨.nilFunc, by kernel_rfl, .one rfl⟩
instance : Sc Tryd.prog 50 := ⟨_, Tryd.underlying50, rfl, by kernel_rfl⟩
instance : ZeroT Tryd.prog 50 [.slice none 0 0] := ⟨.slice none 0 0, by kernel_rfl, .one rfl⟩
instance : SliceT Tryd.prog 50 9 1 16 := ⟨Tryd.underlying50, by decide, by decide, .string .empty, by kernel_rfl, by kernel_rfl⟩
instance : Sc Tryd.prog 51 := ⟨_, Tryd.underlying51, rfl, by kernel_rfl⟩
instance : ZeroT Tryd.prog 51 [.int .u64 0] := ⟨.int .u64 0, by kernel_rfl, .one rfl⟩
instance : IntT Tryd.prog 51 .u64 := ⟨Tryd.underlying51⟩
instance : Ag Tryd.prog 52 4 := ⟨_, Tryd.underlying52, rfl, by kernel_rfl⟩
instance : ArrT Tryd.prog 52 4 51 1 := ⟨Tryd.underlying52, by kernel_rfl⟩
instance : OffsT Tryd.prog 52 (arrOffs 4 1) [.int .u64 0, .int .u64 0, .int .u64 0, .int .u64 0] := ⟨fun i => some (i * 1, 1), fun _ => by kernel_rfl, arrOffs_at 4 1⟩
instance : ZeroT Tryd.prog 52 [.int .u64 0, .int .u64 0, .int .u64 0, .int .u64 0] := ⟨_, show still Tryd.prog (zeroValue 52) = some (.agg (List.toArray [.int .u64 0, .int .u64 0, .int .u64 0, .int .u64 0])) by kernel_rfl, .agg _⟩
instance : Ag Tryd.prog 53 8 := ⟨_, Tryd.underlying53, rfl, by kernel_rfl⟩
instance : FieldAt Tryd.prog 53 0 0 := ⟨_, _, 3, Tryd.underlying53, rfl, rfl, by kernel_rfl⟩
instance : FieldAt Tryd.prog 53 1 4 := ⟨_, _, 3, Tryd.underlying53, rfl, rfl, by kernel_rfl⟩
instance : OffsT Tryd.prog 53 [(0, 4), (4, 4)] [.int .u64 0, .int .u64 0, .int .u64 0, .int .u64 0, .int .u64 0, .int .u64 0, .int .u64 0, .int .u64 0] := ⟨(([(0, 4), (4, 4)] : List (Nat × Nat)).toArray[·]?), fun _ => by kernel_rfl, fun i p h => by simpa using h⟩
instance : ZeroT Tryd.prog 53 [.int .u64 0, .int .u64 0, .int .u64 0, .int .u64 0, .int .u64 0, .int .u64 0, .int .u64 0, .int .u64 0] := ⟨_, show still Tryd.prog (zeroValue 53) = some (.agg (List.toArray [.int .u64 0, .int .u64 0, .int .u64 0, .int .u64 0, .int .u64 0, .int .u64 0, .int .u64 0, .int .u64 0])) by kernel_rfl, .agg _⟩
instance : Ag Tryd.prog 54 8 := ⟨_, Tryd.underlying54, rfl, by kernel_rfl⟩
instance : FieldAt Tryd.prog 54 0 0 := ⟨_, _, 3, Tryd.underlying54, rfl, rfl, by kernel_rfl⟩
instance : FieldAt Tryd.prog 54 1 4 := ⟨_, _, 3, Tryd.underlying54, rfl, rfl, by kernel_rfl⟩
instance : OffsT Tryd.prog 54 [(0, 4), (4, 4)] [.int .u64 0, .int .u64 0, .int .u64 0, .int .u64 0, .int .u64 0, .int .u64 0, .int .u64 0, .int .u64 0] := ⟨(([(0, 4), (4, 4)] : List (Nat × Nat)).toArray[·]?), fun _ => by kernel_rfl, fun i p h => by simpa using h⟩
instance : ZeroT Tryd.prog 54 [.int .u64 0, .int .u64 0, .int .u64 0, .int .u64 0, .int .u64 0, .int .u64 0, .int .u64 0, .int .u64 0] := ⟨_, show still Tryd.prog (zeroValue 54) = some (.agg (List.toArray [.int .u64 0, .int .u64 0, .int .u64 0, .int .u64 0, .int .u64 0, .int .u64 0, .int .u64 0, .int .u64 0])) by kernel_rfl, .agg _⟩
instance : Ag Tryd.prog 55 5 := ⟨_, Tryd.underlying55, rfl, by kernel_rfl⟩
instance : FieldAt Tryd.prog 55 0 0 := ⟨_, _, 0, Tryd.underlying55, rfl, rfl, by kernel_rfl⟩
instance : FieldAt Tryd.prog 55 1 1 := ⟨_, _, 0, Tryd.underlying55, rfl, rfl, by kernel_rfl⟩
instance : FieldAt Tryd.prog 55 2 2 := ⟨_, _, 0, Tryd.underlying55, rfl, rfl, by kernel_rfl⟩
instance : FieldAt Tryd.prog 55 3 3 := ⟨_, _, 0, Tryd.underlying55, rfl, rfl, by kernel_rfl⟩
instance : FieldAt Tryd.prog 55 4 4 := ⟨_, _, 0, Tryd.underlying55, rfl, rfl, by kernel_rfl⟩
instance : OffsT Tryd.prog 55 [(0, 1), (1, 1), (2, 1), (3, 1), (4, 1)] [.int .i64 0, .int .i64 0, .int .i64 0, .string .empty, .bool false] := ⟨(([(0, 1), (1, 1), (2, 1), (3, 1), (4, 1)] : List (Nat × Nat)).toArray[·]?), fun _ => by kernel_rfl, fun i p h => by simpa using h⟩
instance : ZeroT Tryd.prog 55 [.int .i64 0, .int .i64 0, .int .i64 0, .string .empty, .bool false] := ⟨_, show still Tryd.prog (zeroValue 55) = some (.agg (List.toArray [.int .i64 0, .int .i64 0, .int .i64 0, .string .empty, .bool false])) by kernel_rfl, .agg _⟩
instance : Ag Tryd.prog 56 5 := ⟨_, Tryd.underlying56, rfl, by kernel_rfl⟩
instance : FieldAt Tryd.prog 56 0 0 := ⟨_, _, 0, Tryd.underlying56, rfl, rfl, by kernel_rfl⟩
instance : FieldAt Tryd.prog 56 1 1 := ⟨_, _, 0, Tryd.underlying56, rfl, rfl, by kernel_rfl⟩
instance : FieldAt Tryd.prog 56 2 2 := ⟨_, _, 0, Tryd.underlying56, rfl, rfl, by kernel_rfl⟩
instance : FieldAt Tryd.prog 56 3 3 := ⟨_, _, 0, Tryd.underlying56, rfl, rfl, by kernel_rfl⟩
instance : FieldAt Tryd.prog 56 4 4 := ⟨_, _, 0, Tryd.underlying56, rfl, rfl, by kernel_rfl⟩
instance : OffsT Tryd.prog 56 [(0, 1), (1, 1), (2, 1), (3, 1), (4, 1)] [.int .i64 0, .int .i64 0, .int .i64 0, .string .empty, .bool false] := ⟨(([(0, 1), (1, 1), (2, 1), (3, 1), (4, 1)] : List (Nat × Nat)).toArray[·]?), fun _ => by kernel_rfl, fun i p h => by simpa using h⟩
instance : ZeroT Tryd.prog 56 [.int .i64 0, .int .i64 0, .int .i64 0, .string .empty, .bool false] := ⟨_, show still Tryd.prog (zeroValue 56) = some (.agg (List.toArray [.int .i64 0, .int .i64 0, .int .i64 0, .string .empty, .bool false])) by kernel_rfl, .agg _⟩
instance : Sc Tryd.prog 57 := ⟨_, Tryd.underlying57, rfl, by kernel_rfl⟩
instance : ZeroT Tryd.prog 57 [.slice none 0 0] := ⟨.slice none 0 0, by kernel_rfl, .one rfl⟩
instance : SliceT Tryd.prog 57 170 4 32 := ⟨Tryd.underlying57, by decide, by decide, .agg #[.int .i64 0, .int .i64 0, .int .i64 0, .int .i64 0], by kernel_rfl, by kernel_rfl⟩
instance : Ag Tryd.prog 58 3 := ⟨_, Tryd.underlying58, rfl, by kernel_rfl⟩
instance : FieldAt Tryd.prog 58 0 0 := ⟨_, _, 0, Tryd.underlying58, rfl, rfl, by kernel_rfl⟩
instance : FieldAt Tryd.prog 58 1 1 := ⟨_, _, 0, Tryd.underlying58, rfl, rfl, by kernel_rfl⟩
instance : FieldAt Tryd.prog 58 2 2 := ⟨_, _, 0, Tryd.underlying58, rfl, rfl, by kernel_rfl⟩
instance : OffsT Tryd.prog 58 [(0, 1), (1, 1), (2, 1)] [.int .i64 0, .int .i64 0, .slice none 0 0] := ⟨(([(0, 1), (1, 1), (2, 1)] : List (Nat × Nat)).toArray[·]?), fun _ => by kernel_rfl, fun i p h => by simpa using h⟩
instance : ZeroT Tryd.prog 58 [.int .i64 0, .int .i64 0, .slice none 0 0] := ⟨_, show still Tryd.prog (zeroValue 58) = some (.agg (List.toArray [.int .i64 0, .int .i64 0, .slice none 0 0])) by kernel_rfl, .agg _⟩
instance : Ag Tryd.prog 59 3 := ⟨_, Tryd.underlying59, rfl, by kernel_rfl⟩
instance : FieldAt Tryd.prog 59 0 0 := ⟨_, _, 0, Tryd.underlying59, rfl, rfl, by kernel_rfl⟩
instance : FieldAt Tryd.prog 59 1 1 := ⟨_, _, 0, Tryd.underlying59, rfl, rfl, by kernel_rfl⟩
instance : FieldAt Tryd.prog 59 2 2 := ⟨_, _, 0, Tryd.underlying59, rfl, rfl, by kernel_rfl⟩
instance : OffsT Tryd.prog 59 [(0, 1), (1, 1), (2, 1)] [.int .i64 0, .int .i64 0, .slice none 0 0] := ⟨(([(0, 1), (1, 1), (2, 1)] : List (Nat × Nat)).toArray[·]?), fun _ => by kernel_rfl, fun i p h => by simpa using h⟩
instance : ZeroT Tryd.prog 59 [.int .i64 0, .int .i64 0, .slice none 0 0] := ⟨_, show still Tryd.prog (zeroValue 59) = some (.agg (List.toArray [.int .i64 0, .int .i64 0, .slice none 0 0])) by kernel_rfl, .agg _⟩
instance : Ag Tryd.prog 60 3 := ⟨_, Tryd.underlying60, rfl, by kernel_rfl⟩
instance : FieldAt Tryd.prog 60 0 0 := ⟨_, _, 0, Tryd.underlying60, rfl, rfl, by kernel_rfl⟩
instance : FieldAt Tryd.prog 60 1 1 := ⟨_, _, 0, Tryd.underlying60, rfl, rfl, by kernel_rfl⟩
instance : FieldAt Tryd.prog 60 2 2 := ⟨_, _, 0, Tryd.underlying60, rfl, rfl, by kernel_rfl⟩
instance : OffsT Tryd.prog 60 [(0, 1), (1, 1), (2, 1)] [.int .i64 0, .int .i64 0, .int .i64 0] := ⟨(([(0, 1), (1, 1), (2, 1)] : List (Nat × Nat)).toArray[·]?), fun _ => by kernel_rfl, fun i p h => by simpa using h⟩
instance : ZeroT Tryd.prog 60 [.int .i64 0, .int .i64 0, .int .i64 0] := ⟨_, show still Tryd.prog (zeroValue 60) = some (.agg (List.toArray [.int .i64 0, .int .i64 0, .int .i64 0])) by kernel_rfl, .agg _⟩
instance : Ag Tryd.prog 61 3 := ⟨_, Tryd.underlying61, rfl, by kernel_rfl⟩
instance : FieldAt Tryd.prog 61 0 0 := ⟨_, _, 0, Tryd.underlying61, rfl, rfl, by kernel_rfl⟩
instance : FieldAt Tryd.prog 61 1 1 := ⟨_, _, 0, Tryd.underlying61, rfl, rfl, by kernel_rfl⟩
instance : FieldAt Tryd.prog 61 2 2 := ⟨_, _, 0, Tryd.underlying61, rfl, rfl, by kernel_rfl⟩
instance : OffsT Tryd.prog 61 [(0, 1), (1, 1), (2, 1)] [.int .i64 0, .int .i64 0, .int .i64 0] := ⟨(([(0, 1), (1, 1), (2, 1)] : List (Nat × Nat)).toArray[·]?), fun _ => by kernel_rfl, fun i p h => by simpa using h⟩
instance : ZeroT Tryd.prog 61 [.int .i64 0, .int .i64 0, .int .i64 0] := ⟨_, show still Tryd.prog (zeroValue 61) = some (.agg (List.toArray [.int .i64 0, .int .i64 0, .int .i64 0])) by kernel_rfl, .agg _⟩
instance : Ag Tryd.prog 62 4 := ⟨_, Tryd.underlying62, rfl, by kernel_rfl⟩
instance : FieldAt Tryd.prog 62 0 0 := ⟨_, _, 3, Tryd.underlying62, rfl, rfl, by kernel_rfl⟩
instance : OffsT Tryd.prog 62 [(0, 4)] [.int .u64 0, .int .u64 0, .int .u64 0, .int .u64 0] := ⟨(([(0, 4)] : List (Nat × Nat)).toArray[·]?), fun _ => by kernel_rfl, fun i p h => by simpa using h⟩
instance : ZeroT Tryd.prog 62 [.int .u64 0, .int .u64 0, .int .u64 0, .int .u64 0] := ⟨_, show still Tryd.prog (zeroValue 62) = some (.agg (List.toArray [.int .u64 0, .int .u64 0, .int .u64 0, .int .u64 0])) by kernel_rfl, .agg _⟩
instance : Ag Tryd.prog 63 4 := ⟨_, Tryd.underlying63, rfl, by kernel_rfl⟩
instance : FieldAt Tryd.prog 63 0 0 := ⟨_, _, 3, Tryd.underlying63, rfl, rfl, by kernel_rfl⟩
instance : OffsT Tryd.prog 63 [(0, 4)] [.int .u64 0, .int .u64 0, .int .u64 0, .int .u64 0] := ⟨(([(0, 4)] : List (Nat × Nat)).toArray[·]?), fun _ => by kernel_rfl, fun i p h => by simpa using h⟩
instance : ZeroT Tryd.prog 63 [.int .u64 0, .int .u64 0, .int .u64 0, .int .u64 0] := ⟨_, show still Tryd.prog (zeroValue 63) = some (.agg (List.toArray [.int .u64 0, .int .u64 0, .int .u64 0, .int .u64 0])) by kernel_rfl, .agg _⟩
instance : Ag Tryd.prog 64 2 := ⟨_, Tryd.underlying64, rfl, by kernel_rfl⟩
instance : ArrT Tryd.prog 64 2 3 1 := ⟨Tryd.underlying64, by kernel_rfl⟩
instance : OffsT Tryd.prog 64 (arrOffs 2 1) [.int .i64 0, .int .i64 0] := ⟨fun i => some (i * 1, 1), fun _ => by kernel_rfl, arrOffs_at 2 1⟩
instance : ZeroT Tryd.prog 64 [.int .i64 0, .int .i64 0] := ⟨_, show still Tryd.prog (zeroValue 64) = some (.agg (List.toArray [.int .i64 0, .int .i64 0])) by kernel_rfl, .agg _⟩
instance : Ag Tryd.prog 65 9 := ⟨_, Tryd.underlying65, rfl, by kernel_rfl⟩
instance : FieldAt Tryd.prog 65 0 0 := ⟨_, _, 0, Tryd.underlying65, rfl, rfl, by kernel_rfl⟩
instance : FieldAt Tryd.prog 65 1 1 := ⟨_, _, 0, Tryd.underlying65, rfl, rfl, by kernel_rfl⟩
instance : FieldAt Tryd.prog 65 2 2 := ⟨_, _, 2, Tryd.underlying65, rfl, rfl, by kernel_rfl⟩
instance : FieldAt Tryd.prog 65 3 5 := ⟨_, _, 0, Tryd.underlying65, rfl, rfl, by kernel_rfl⟩
instance : FieldAt Tryd.prog 65 4 6 := ⟨_, _, 1, Tryd.underlying65, rfl, rfl, by kernel_rfl⟩
instance : FieldAt Tryd.prog 65 5 8 := ⟨_, _, 0, Tryd.underlying65, rfl, rfl, by kernel_rfl⟩
instance : OffsT Tryd.prog 65 [(0, 1), (1, 1), (2, 3), (5, 1), (6, 2), (8, 1)] [.int .i64 0, .int .i64 0, .int .i64 0, .int .i64 0, .int .i64 0, .bool false, .int .i64 0, .int .i64 0, .int .i64 0] := ⟨(([(0, 1), (1, 1), (2, 3), (5, 1), (6, 2), (8, 1)] : List (Nat × Nat)).toArray[·]?), fun _ => by kernel_rfl, fun i p h => by simpa using h⟩
instance : ZeroT Tryd.prog 65 [.int .i64 0, .int .i64 0, .int .i64 0, .int .i64 0, .int .i64 0, .bool false, .int .i64 0, .int .i64 0, .int .i64 0] := ⟨_, show still Tryd.prog (zeroValue 65) = some (.agg (List.toArray [.int .i64 0, .int .i64 0, .int .i64 0, .int .i64 0, .int .i64 0, .bool false, .int .i64 0, .int .i64 0, .int .i64 0])) by kernel_rfl, .agg _⟩
instance : Ag Tryd.prog 66 9 := ⟨_, Tryd.underlying66, rfl, by kernel_rfl⟩
instance : FieldAt Tryd.prog 66 0 0 := ⟨_, _, 0, Tryd.underlying66, rfl, rfl, by kernel_rfl⟩
instance : FieldAt Tryd.prog 66 1 1 := ⟨_, _, 0, Tryd.underlying66, rfl, rfl, by kernel_rfl⟩
instance : FieldAt Tryd.prog 66 2 2 := ⟨_, _, 2, Tryd.underlying66, rfl, rfl, by kernel_rfl⟩
instance : FieldAt Tryd.prog 66 3 5 := ⟨_, _, 0, Tryd.underlying66, rfl, rfl, by kernel_rfl⟩
instance : FieldAt Tryd.prog 66 4 6 := ⟨_, _, 1, Tryd.underlying66, rfl, rfl, by kernel_rfl⟩
instance : FieldAt Tryd.prog 66 5 8 := ⟨_, _, 0, Tryd.underlying66, rfl, rfl, by kernel_rfl⟩
instance : OffsT Tryd.prog 66 [(0, 1), (1, 1), (2, 3), (5, 1), (6, 2), (8, 1)] [.int .i64 0, .int .i64 0, .int .i64 0, .int .i64 0, .int .i64 0, .bool false, .int .i64 0, .int .i64 0, .int .i64 0] := ⟨(([(0, 1), (1, 1), (2, 3), (5, 1), (6, 2), (8, 1)] : List (Nat × Nat)).toArray[·]?), fun _ => by kernel_rfl, fun i p h => by simpa using h⟩
instance : ZeroT Tryd.prog 66 [.int .i64 0, .int .i64 0, .int .i64 0, .int .i64 0, .int .i64 0, .bool false, .int .i64 0, .int .i64 0, .int .i64 0] := ⟨_, show still Tryd.prog (zeroValue 66) = some (.agg (List.toArray [.int .i64 0, .int .i64 0, .int .i64 0, .int .i64 0, .int .i64 0, .bool false, .int .i64 0, .int .i64 0, .int .i64 0])) by kernel_rfl, .agg _⟩
instance : Sc Tryd.prog 67 := ⟨_, Tryd.underlying67, rfl, by kernel_rfl⟩
instance : ZeroT Tryd.prog 67 [.slice none 0 0] := ⟨.slice none 0 0, by kernel_rfl, .one rfl⟩
instance : SliceT Tryd.prog 67 167 1 24 := ⟨Tryd.underlying67, by decide, by decide, .agg #[.slice none 0 0], by kernel_rfl, by kernel_rfl⟩
instance : Ag Tryd.prog 68 33 := ⟨_, Tryd.underlying68, rfl, by kernel_rfl⟩
instance : FieldAt Tryd.prog 68 0 0 := ⟨_, _, 2, Tryd.underlying68, rfl, rfl, by kernel_rfl⟩
instance : FieldAt Tryd.prog 68 1 3 := ⟨_, _, 0, Tryd.underlying68, rfl, rfl, by kernel_rfl⟩
instance : FieldAt Tryd.prog 68 2 4 := ⟨_, _, 0, Tryd.underlying68, rfl, rfl, by kernel_rfl⟩
instance : FieldAt Tryd.prog 68 3 5 := ⟨_, _, 0, Tryd.underlying68, rfl, rfl, by kernel_rfl⟩
instance : FieldAt Tryd.prog 68 4 6 := ⟨_, _, 0, Tryd.underlying68, rfl, rfl, by kernel_rfl⟩
instance : FieldAt Tryd.prog 68 5 7 := ⟨_, _, 0, Tryd.underlying68, rfl, rfl, by kernel_rfl⟩
instance : FieldAt Tryd.prog 68 6 8 := ⟨_, _, 2, Tryd.underlying68, rfl, rfl, by kernel_rfl⟩
instance : FieldAt Tryd.prog 68 7 11 := ⟨_, _, 0, Tryd.underlying68, rfl, rfl, by kernel_rfl⟩
instance : FieldAt Tryd.prog 68 8 12 := ⟨_, _, 3, Tryd.underlying68, rfl, rfl, by kernel_rfl⟩
instance : FieldAt Tryd.prog 68 9 16 := ⟨_, _, 1, Tryd.underlying68, rfl, rfl, by kernel_rfl⟩
instance : FieldAt Tryd.prog 68 10 18 := ⟨_, _, 0, Tryd.underlying68, rfl, rfl, by kernel_rfl⟩
instance : FieldAt Tryd.prog 68 11 19 := ⟨_, _, 8, Tryd.underlying68, rfl, rfl, by kernel_rfl⟩
instance : FieldAt Tryd.prog 68 12 28 := ⟨_, _, 2, Tryd.underlying68, rfl, rfl, by kernel_rfl⟩
instance : FieldAt Tryd.prog 68 13 31 := ⟨_, _, 0, Tryd.underlying68, rfl, rfl, by kernel_rfl⟩
instance : FieldAt Tryd.prog 68 14 32 := ⟨_, _, 0, Tryd.underlying68, rfl, rfl, by kernel_rfl⟩
instance : OffsT Tryd.prog 68 [(0, 3), (3, 1), (4, 1), (5, 1), (6, 1), (7, 1), (8, 3), (11, 1), (12, 4), (16, 2), (18, 1), (19, 9), (28, 3), (31, 1), (32, 1)] [.int .i64 0, .int .i64 0, .slice none 0 0, .int .i64 0, .int .i64 0, .bool false, .int .i64 0, .int .i64 0, .int .i64 0, .int .i64 0, .int .i64 0, .int .i64 0, .int .u64 0, .int .u64 0, .int .u64 0, .int .u64 0, .int .i64 0, .int .i64 0, .int .i64 0, .int .i64 0, .int .i64 0, .int .i64 0, .int .i64 0, .int .i64 0, .bool false, .int .i64 0, .int .i64 0, .int .i64 0, .int .i64 0, .int .i64 0, .slice none 0 0, .string .empty, .slice none 0 0] := ⟨(([(0, 3), (3, 1), (4, 1), (5, 1), (6, 1), (7, 1), (8, 3), (11, 1), (12, 4), (16, 2), (18, 1), (19, 9), (28, 3), (31, 1), (32, 1)] : List (Nat × Nat)).toArray[·]?), fun _ => by kernel_rfl, fun i p h => by simpa using h⟩
instance : ZeroT Tryd.prog 68 [.int .i64 0, .int .i64 0, .slice none 0 0, .int .i64 0, .int .i64 0, .bool false, .int .i64 0, .int .i64 0, .int .i64 0, .int .i64 0, .int .i64 0, .int .i64 0, .int .u64 0, .int .u64 0, .int .u64 0, .int .u64 0, .int .i64 0, .int .i64 0, .int .i64 0, .int .i64 0, .int .i64 0, .int .i64 0, .int .i64 0, .int .i64 0, .bool false, .int .i64 0, .int .i64 0, .int .i64 0, .int .i64 0, .int .i64 0, .slice none 0 0, .string .empty, .slice none 0 0] := ⟨_, show still Tryd.prog (zeroValue 68) = some (.agg (List.toArray [.int .i64 0, .int .i64 0, .slice none 0 0, .int .i64 0, .int .i64 0, .bool false, .int .i64 0, .int .i64 0, .int .i64 0, .int .i64 0, .int .i64 0, .int .i64 0, .int .u64 0, .int .u64 0, .int .u64 0, .int .u64 0, .int .i64 0, .int .i64 0, .int .i64 0, .int .i64 0, .int .i64 0, .int .i64 0, .int .i64 0, .int .i64 0, .bool false, .int .i64 0, .int .i64 0, .int .i64 0, .int .i64 0, .int .i64 0, .slice none 0 0, .string .empty, .slice none 0 0])) by kernel_rfl, .agg _⟩
instance : Ag Tryd.prog 69 33 := ⟨_, Tryd.underlying69, rfl, by kernel_rfl⟩
instance : FieldAt Tryd.prog 69 0 0 := ⟨_, _, 2, Tryd.underlying69, rfl, rfl, by kernel_rfl⟩
instance : FieldAt Tryd.prog 69 1 3 := ⟨_, _, 0, Tryd.underlying69, rfl, rfl, by kernel_rfl⟩
instance : FieldAt Tryd.prog 69 2 4 := ⟨_, _, 0, Tryd.underlying69, rfl, rfl, by kernel_rfl⟩
instance : FieldAt Tryd.prog 69 3 5 := ⟨_, _, 0, Tryd.underlying69, rfl, rfl, by kernel_rfl⟩
instance : FieldAt Tryd.prog 69 4 6 := ⟨_, _, 0, Tryd.underlying69, rfl, rfl, by kernel_rfl⟩
instance : FieldAt Tryd.prog 69 5 7 := ⟨_, _, 0, Tryd.underlying69, rfl, rfl, by kernel_rfl⟩
instance : FieldAt Tryd.prog 69 6 8 := ⟨_, _, 2, Tryd.underlying69, rfl, rfl, by kernel_rfl⟩
instance : FieldAt Tryd.prog 69 7 11 := ⟨_, _, 0, Tryd.underlying69, rfl, rfl, by kernel_rfl⟩
instance : FieldAt Tryd.prog 69 8 12 := ⟨_, _, 3, Tryd.underlying69, rfl, rfl, by kernel_rfl⟩
instance : FieldAt Tryd.prog 69 9 16 := ⟨_, _, 1, Tryd.underlying69, rfl, rfl, by kernel_rfl⟩
instance : FieldAt Tryd.prog 69 10 18 := ⟨_, _, 0, Tryd.underlying69, rfl, rfl, by kernel_rfl⟩
instance : FieldAt Tryd.prog 69 11 19 := ⟨_, _, 8, Tryd.underlying69, rfl, rfl, by kernel_rfl⟩
instance : FieldAt Tryd.prog 69 12 28 := ⟨_, _, 2, Tryd.underlying69, rfl, rfl, by kernel_rfl⟩
instance : FieldAt Tryd.prog 69 13 31 := ⟨_, _, 0, Tryd.underlying69, rfl, rfl, by kernel_rfl⟩
instance : FieldAt Tryd.prog 69 14 32 := ⟨_, _, 0, Tryd.underlying69, rfl, rfl, by kernel_rfl⟩
instance : OffsT Tryd.prog 69 [(0, 3), (3, 1), (4, 1), (5, 1), (6, 1), (7, 1), (8, 3), (11, 1), (12, 4), (16, 2), (18, 1), (19, 9), (28, 3), (31, 1), (32, 1)] [.int .i64 0, .int .i64 0, .slice none 0 0, .int .i64 0, .int .i64 0, .bool false, .int .i64 0, .int .i64 0, .int .i64 0, .int .i64 0, .int .i64 0, .int .i64 0, .int .u64 0, .int .u64 0, .int .u64 0, .int .u64 0, .int .i64 0, .int .i64 0, .int .i64 0, .int .i64 0, .int .i64 0, .int .i64 0, .int .i64 0, .int .i64 0, .bool false, .int .i64 0, .int .i64 0, .int .i64 0, .int .i64 0, .int .i64 0, .slice none 0 0, .string .empty, .slice none 0 0] := ⟨(([(0, 3), (3, 1), (4, 1), (5, 1), (6, 1), (7, 1), (8, 3), (11, 1), (12, 4), (16, 2), (18, 1), (19, 9), (28, 3), (31, 1), (32, 1)] : List (Nat × Nat)).toArray[·]?), fun _ => by kernel_rfl, fun i p h => by simpa using h⟩
instance : ZeroT Tryd.prog 69 [.int .i64 0, .int .i64 0, .slice none 0 0, .int .i64 0, .int .i64 0, .bool false, .int .i64 0, .int .i64 0, .int .i64 0, .int .i64 0, .int .i64 0, .int .i64 0, .int .u64 0, .int .u64 0, .int .u64 0, .int .u64 0, .int .i64 0, .int .i64 0, .int .i64 0, .int .i64 0, .int .i64 0, .int .i64 0, .int .i64 0, .int .i64 0, .bool false, .int .i64 0, .int .i64 0, .int .i64 0, .int .i64 0, .int .i64 0, .slice none 0 0, .string .empty, .slice none 0 0] := ⟨_, show still Tryd.prog (zeroValue 69) = some (.agg (List.toArray [.int .i64 0, .int .i64 0, .slice none 0 0, .int .i64 0, .int .i64 0, .bool false, .int .i64 0, .int .i64 0, .int .i64 0, .int .i64 0, .int .i64 0, .int .i64 0, .int .u64 0, .int .u64 0, .int .u64 0, .int .u64 0, .int .i64 0, .int .i64 0, .int .i64 0, .int .i64 0, .int .i64 0, .int .i64 0, .int .i64 0, .int .i64 0, .bool false, .int .i64 0, .int .i64 0, .int .i64 0, .int .i64 0, .int .i64 0, .slice none 0 0, .string .empty, .slice none 0 0])) by kernel_rfl, .agg _⟩
instance : Ag Tryd.prog 70 256 := ⟨_, Tryd.underlying70, rfl, by kernel_rfl⟩
instance : ArrT Tryd.prog 70 256 5 1 := ⟨Tryd.underlying70, by kernel_rfl⟩
instance : Ag Tryd.prog 71 520 := ⟨_, Tryd.underlying71, rfl, by kernel_rfl⟩
instance : FieldAt Tryd.prog 71 0 0 := ⟨_, _, 255, Tryd.underlying71, rfl, rfl, by kernel_rfl⟩
instance : FieldAt Tryd.prog 71 1 256 := ⟨_, _, 255, Tryd.underlying71, rfl, rfl, by kernel_rfl⟩
instance : FieldAt Tryd.prog 71 2 512 := ⟨_, _, 3, Tryd.underlying71, rfl, rfl, by kernel_rfl⟩
instance : FieldAt Tryd.prog 71 3 516 := ⟨_, _, 3, Tryd.underlying71, rfl, rfl, by kernel_rfl⟩
instance : Ag Tryd.prog 72 520 := ⟨_, Tryd.underlying72, rfl, by kernel_rfl⟩
instance : FieldAt Tryd.prog 72 0 0 := ⟨_, _, 255, Tryd.underlying72, rfl, rfl, by kernel_rfl⟩
instance : FieldAt Tryd.prog 72 1 256 := ⟨_, _, 255, Tryd.underlying72, rfl, rfl, by kernel_rfl⟩
instance : FieldAt Tryd.prog 72 2 512 := ⟨_, _, 3, Tryd.underlying72, rfl, rfl, by kernel_rfl⟩
instance : FieldAt Tryd.prog 72 3 516 := ⟨_, _, 3, Tryd.underlying72, rfl, rfl, by kernel_rfl⟩
instance : Ag Tryd.prog 73 2 := ⟨_, Tryd.underlying73, rfl, by kernel_rfl⟩
instance : FieldAt Tryd.prog 73 0 0 := ⟨_, _, 0, Tryd.underlying73, rfl, rfl, by kernel_rfl⟩
instance : FieldAt Tryd.prog 73 1 1 := ⟨_, _, 0, Tryd.underlying73, rfl, rfl, by kernel_rfl⟩
instance : OffsT Tryd.prog 73 [(0, 1), (1, 1)] [.slice none 0 0, .int .i64 0] := ⟨(([(0, 1), (1, 1)] : List (Nat × Nat)).toArray[·]?), fun _ => by kernel_rfl, fun i p h => by simpa using h⟩
instance : ZeroT Tryd.prog 73 [.slice none 0 0, .int .i64 0] := ⟨_, show still Tryd.prog (zeroValue 73) = some (.agg (List.toArray [.slice none 0 0, .int .i64 0])) by kernel_rfl, .agg _⟩
instance : Ag Tryd.prog 74 2 := ⟨_, Tryd.underlying74, rfl, by kernel_rfl⟩
instance : FieldAt Tryd.prog 74 0 0 := ⟨_, _, 0, Tryd.underlying74, rfl, rfl, by kernel_rfl⟩
instance : FieldAt Tryd.prog 74 1 1 := ⟨_, _, 0, Tryd.underlying74, rfl, rfl, by kernel_rfl⟩
instance : OffsT Tryd.prog 74 [(0, 1), (1, 1)] [.slice none 0 0, .int .i64 0] := ⟨(([(0, 1), (1, 1)] : List (Nat × Nat)).toArray[·]?), fun _ => by kernel_rfl, fun i p h => by simpa using h⟩
instance : ZeroT Tryd.prog 74 [.slice none 0 0, .int .i64 0] := ⟨_, show still Tryd.prog (zeroValue 74) = some (.agg (List.toArray [.slice none 0 0, .int .i64 0])) by kernel_rfl, .agg _⟩
instance : Ag Tryd.prog 75 19 := ⟨_, Tryd.underlying75, rfl, by kernel_rfl⟩
instance : ArrT Tryd.prog 75 19 5 1 := ⟨Tryd.underlying75, by kernel_rfl⟩
instance : OffsT Tryd.prog 75 (arrOffs 19 1) [.int .u8 0, .int .u8 0, .int .u8 0, .int .u8 0, .int .u8 0, .int .u8 0, .int .u8 0, .int .u8 0, .int .u8 0, .int .u8 0, .int .u8 0, .int .u8 0, .int .u8 0, .int .u8 0, .int .u8 0, .int .u8 0, .int .u8 0, .int .u8 0, .int .u8 0] := ⟨fun i => some (i * 1, 1), fun _ => by kernel_rfl, arrOffs_at 19 1⟩
instance : ZeroT Tryd.prog 75 [.int .u8 0, .int .u8 0, .int .u8 0, .int .u8 0, .int .u8 0, .int .u8 0, .int .u8 0, .int .u8 0, .int .u8 0, .int .u8 0, .int .u8 0, .int .u8 0, .int .u8 0, .int .u8 0, .int .u8 0, .int .u8 0, .int .u8 0, .int .u8 0, .int .u8 0] := ⟨_, show still Tryd.prog (zeroValue 75) = some (.agg (List.toArray [.int .u8 0, .int .u8 0, .int .u8 0, .int .u8 0, .int .u8 0, .int .u8 0, .int .u8 0, .int .u8 0, .int .u8 0, .int .u8 0, .int .u8 0, .int .u8 0, .int .u8 0, .int .u8 0, .int .u8 0, .int .u8 0, .int .u8 0, .int .u8 0, .int .u8 0])) by kernel_rfl, .agg _⟩
instance : Ag Tryd.prog 76 38 := ⟨_, Tryd.underlying76, rfl, by kernel_rfl⟩
instance : FieldAt Tryd.prog 76 0 0 := ⟨_, _, 18, Tryd.underlying76, rfl, rfl, by kernel_rfl⟩
instance : FieldAt Tryd.prog 76 1 19 := ⟨_, _, 18, Tryd.underlying76, rfl, rfl, by kernel_rfl⟩
instance : OffsT Tryd.prog 76 [(0, 19), (19, 19)] [.int .u8 0, .int .u8 0, .int .u8 0, .int .u8 0, .int .u8 0, .int .u8 0, .int .u8 0, .int .u8 0, .int .u8 0, .int .u8 0, .int .u8 0, .int .u8 0, .int .u8 0, .int .u8 0, .int .u8 0, .int .u8 0, .int .u8 0, .int .u8 0, .int .u8 0, .int .u8 0, .int .u8 0, .int .u8 0, .int .u8 0, .int .u8 0, .int .u8 0, .int .u8 0, .int .u8 0, .int .u8 0, .int .u8 0, .int .u8 0, .int .u8 0, .int .u8 0, .int .u8 0, .int .u8 0, .int .u8 0, .int .u8 0, .int .u8 0, .int .u8 0] := ⟨(([(0, 19), (19, 19)] : List (Nat × Nat)).toArray[·]?), fun _ => by kernel_rfl, fun i p h => by simpa using h⟩
instance : ZeroT Tryd.prog 76 [.int .u8 0, .int .u8 0, .int .u8 0, .int .u8 0, .int .u8 0, .int .u8 0, .int .u8 0, .int .u8 0, .int .u8 0, .int .u8 0, .int .u8 0, .int .u8 0, .int .u8 0, .int .u8 0, .int .u8 0, .int .u8 0, .int .u8 0, .int .u8 0, .int .u8 0, .int .u8 0, .int .u8 0, .int .u8 0, .int .u8 0, .int .u8 0, .int .u8 0, .int .u8 0, .int .u8 0, .int .u8 0, .int .u8 0, .int .u8 0, .int .u8 0, .int .u8 0, .int .u8 0, .int .u8 0, .int .u8 0, .int .u8 0, .int .u8 0, .int .u8 0] := ⟨_, show still Tryd.prog (zeroValue 76) = some (.agg (List.toArray [.int .u8 0, .int .u8 0, .int .u8 0, .int .u8 0, .int .u8 0, .int .u8 0, .int .u8 0, .int .u8 0, .int .u8 0, .int .u8 0, .int .u8 0, .int .u8 0, .int .u8 0, .int .u8 0, .int .u8 0, .int .u8 0, .int .u8 0, .int .u8 0, .int .u8 0, .int .u8 0, .int .u8 0, .int .u8 0, .int .u8 0, .int .u8 0, .int .u8 0, .int .u8 0, .int .u8 0, .int .u8 0, .int .u8 0, .int .u8 0, .int .u8 0, .int .u8 0, .int .u8 0, .int .u8 0, .int .u8 0, .int .u8 0, .int .u8 0, .int .u8 0])) by kernel_rfl, .agg _⟩
instance : Ag Tryd.prog 77 38 := ⟨_, Tryd.underlying77, rfl, by kernel_rfl⟩
instance : FieldAt Tryd.prog 77 0 0 := ⟨_, _, 18, Tryd.underlying77, rfl, rfl, by kernel_rfl⟩
instance : FieldAt Tryd.prog 77 1 19 := ⟨_, _, 18, Tryd.underlying77, rfl, rfl, by kernel_rfl⟩
instance : OffsT Tryd.prog 77 [(0, 19), (19, 19)] [.int .u8 0, .int .u8 0, .int .u8 0, .int .u8 0, .int .u8 0, .int .u8 0, .int .u8 0, .int .u8 0, .int .u8 0, .int .u8 0, .int .u8 0, .int .u8 0, .int .u8 0, .int .u8 0, .int .u8 0, .int .u8 0, .int .u8 0, .int .u8 0, .int .u8 0, .int .u8 0, .int .u8 0, .int .u8 0, .int .u8 0, .int .u8 0, .int .u8 0, .int .u8 0, .int .u8 0, .int .u8 0, .int .u8 0, .int .u8 0, .int .u8 0, .int .u8 0, .int .u8 0, .int .u8 0, .int .u8 0, .int .u8 0, .int .u8 0, .int .u8 0] := ⟨(([(0, 19), (19, 19)] : List (Nat × Nat)).toArray[·]?), fun _ => by kernel_rfl, fun i p h => by simpa using h⟩
instance : ZeroT Tryd.prog 77 [.int .u8 0, .int .u8 0, .int .u8 0, .int .u8 0, .int .u8 0, .int .u8 0, .int .u8 0, .int .u8 0, .int .u8 0, .int .u8 0, .int .u8 0, .int .u8 0, .int .u8 0, .int .u8 0, .int .u8 0, .int .u8 0, .int .u8 0, .int .u8 0, .int .u8 0, .int .u8 0, .int .u8 0, .int .u8 0, .int .u8 0, .int .u8 0, .int .u8 0, .int .u8 0, .int .u8 0, .int .u8 0, .int .u8 0, .int .u8 0, .int .u8 0, .int .u8 0, .int .u8 0, .int .u8 0, .int .u8 0, .int .u8 0, .int .u8 0, .int .u8 0] := ⟨_, show still Tryd.prog (zeroValue 77) = some (.agg (List.toArray [.int .u8 0, .int .u8 0, .int .u8 0, .int .u8 0, .int .u8 0, .int .u8 0, .int .u8 0, .int .u8 0, .int .u8 0, .int .u8 0, .int .u8 0, .int .u8 0, .int .u8 0, .int .u8 0, .int .u8 0, .int .u8 0, .int .u8 0, .int .u8 0, .int .u8 0, .int .u8 0, .int .u8 0, .int .u8 0, .int .u8 0, .int .u8 0, .int .u8 0, .int .u8 0, .int .u8 0, .int .u8 0, .int .u8 0, .int .u8 0, .int .u8 0, .int .u8 0, .int .u8 0, .int .u8 0, .int .u8 0, .int .u8 0, .int .u8 0, .int .u8 0])) by kernel_rfl, .agg _⟩
instance : Ag Tryd.prog 78 4 := ⟨_, Tryd.underlying78, rfl, by kernel_rfl⟩
instance : FieldAt Tryd.prog 78 0 0 := ⟨_, _, 3, Tryd.underlying78, rfl, rfl, by kernel_rfl⟩
instance : OffsT Tryd.prog 78 [(0, 4)] [.int .u64 0, .int .u64 0, .int .u64 0, .int .u64 0] := ⟨(([(0, 4)] : List (Nat × Nat)).toArray[·]?), fun _ => by kernel_rfl, fun i p h => by simpa using h⟩
instance : ZeroT Tryd.prog 78 [.int .u64 0, .int .u64 0, .int .u64 0, .int .u64 0] := ⟨_, show still Tryd.prog (zeroValue 78) = some (.agg (List.toArray [.int .u64 0, .int .u64 0, .int .u64 0, .int .u64 0])) by kernel_rfl, .agg _⟩
instance : Ag Tryd.prog 79 2 := ⟨_, Tryd.underlying79, rfl, by kernel_rfl⟩
instance : FieldAt Tryd.prog 79 0 0 := ⟨_, _, 0, Tryd.underlying79, rfl, rfl, by kernel_rfl⟩
instance : FieldAt Tryd.prog 79 1 1 := ⟨_, _, 0, Tryd.underlying79, rfl, rfl, by kernel_rfl⟩
instance : OffsT Tryd.prog 79 [(0, 1), (1, 1)] [.string .empty, .bool false] := ⟨(([(0, 1), (1, 1)] : List (Nat × Nat)).toArray[·]?), fun _ => by kernel_rfl, fun i p h => by simpa using h⟩
instance : ZeroT Tryd.prog 79 [.string .empty, .bool false] := ⟨_, show still Tryd.prog (zeroValue 79) = some (.agg (List.toArray [.string .empty, .bool false])) by kernel_rfl, .agg _⟩
instance : Ag Tryd.prog 80 2 := ⟨_, Tryd.underlying80, rfl, by kernel_rfl⟩
instance : FieldAt Tryd.prog 80 0 0 := ⟨_, _, 0, Tryd.underlying80, rfl, rfl, by kernel_rfl⟩
instance : FieldAt Tryd.prog 80 1 1 := ⟨_, _, 0, Tryd.underlying80, rfl, rfl, by kernel_rfl⟩
instance : OffsT Tryd.prog 80 [(0, 1), (1, 1)] [.string .empty, .bool false] := ⟨(([(0, 1), (1, 1)] : List (Nat × Nat)).toArray[·]?), fun _ => by kernel_rfl, fun i p h => by simpa using h⟩
instance : ZeroT Tryd.prog 80 [.string .empty, .bool false] := ⟨_, show still Tryd.prog (zeroValue 80) = some (.agg (List.toArray [.string .empty, .bool false])) by kernel_rfl, .agg _⟩
instance : Ag Tryd.prog 81 613 := ⟨_, Tryd.underlying81, rfl, by kernel_rfl⟩
instance : FieldAt Tryd.prog 81 0 0 := ⟨_, _, 4, Tryd.underlying81, rfl, rfl, by kernel_rfl⟩
instance : FieldAt Tryd.prog 81 1 5 := ⟨_, _, 0, Tryd.underlying81, rfl, rfl, by kernel_rfl⟩
instance : FieldAt Tryd.prog 81 2 6 := ⟨_, _, 0, Tryd.underlying81, rfl, rfl, by kernel_rfl⟩
instance : FieldAt Tryd.prog 81 3 7 := ⟨_, _, 4, Tryd.underlying81, rfl, rfl, by kernel_rfl⟩
instance : FieldAt Tryd.prog 81 4 12 := ⟨_, _, 32, Tryd.underlying81, rfl, rfl, by kernel_rfl⟩
instance : FieldAt Tryd.prog 81 5 45 := ⟨_, _, 519, Tryd.underlying81, rfl, rfl, by kernel_rfl⟩
instance : FieldAt Tryd.prog 81 6 565 := ⟨_, _, 1, Tryd.underlying81, rfl, rfl, by kernel_rfl⟩
instance : FieldAt Tryd.prog 81 7 567 := ⟨_, _, 0, Tryd.underlying81, rfl, rfl, by kernel_rfl⟩
instance : FieldAt Tryd.prog 81 8 568 := ⟨_, _, 37, Tryd.underlying81, rfl, rfl, by kernel_rfl⟩
instance : FieldAt Tryd.prog 81 9 606 := ⟨_, _, 3, Tryd.underlying81, rfl, rfl, by kernel_rfl⟩
instance : FieldAt Tryd.prog 81 10 610 := ⟨_, _, 1, Tryd.underlying81, rfl, rfl, by kernel_rfl⟩
instance : FieldAt Tryd.prog 81 11 612 := ⟨_, _, 0, Tryd.underlying81, rfl, rfl, by kernel_rfl⟩
instance : Ag Tryd.prog 82 613 := ⟨_, Tryd.underlying82, rfl, by kernel_rfl⟩
instance : FieldAt Tryd.prog 82 0 0 := ⟨_, _, 4, Tryd.underlying82, rfl, rfl, by kernel_rfl⟩
instance : FieldAt Tryd.prog 82 1 5 := ⟨_, _, 0, Tryd.underlying82, rfl, rfl, by kernel_rfl⟩
instance : FieldAt Tryd.prog 82 2 6 := ⟨_, _, 0, Tryd.underlying82, rfl, rfl, by kernel_rfl⟩
instance : FieldAt Tryd.prog 82 3 7 := ⟨_, _, 4, Tryd.underlying82, rfl, rfl, by kernel_rfl⟩
instance : FieldAt Tryd.prog 82 4 12 := ⟨_, _, 32, Tryd.underlying82, rfl, rfl, by kernel_rfl⟩
instance : FieldAt Tryd.prog 82 5 45 := ⟨_, _, 519, Tryd.underlying82, rfl, rfl, by kernel_rfl⟩
instance : FieldAt Tryd.prog 82 6 565 := ⟨_, _, 1, Tryd.underlying82, rfl, rfl, by kernel_rfl⟩
instance : FieldAt Tryd.prog 82 7 567 := ⟨_, _, 0, Tryd.underlying82, rfl, rfl, by kernel_rfl⟩
instance : FieldAt Tryd.prog 82 8 568 := ⟨_, _, 37, Tryd.underlying82, rfl, rfl, by kernel_rfl⟩
instance : FieldAt Tryd.prog 82 9 606 := ⟨_, _, 3, Tryd.underlying82, rfl, rfl, by kernel_rfl⟩
instance : FieldAt Tryd.prog 82 10 610 := ⟨_, _, 1, Tryd.underlying82, rfl, rfl, by kernel_rfl⟩
instance : FieldAt Tryd.prog 82 11 612 := ⟨_, _, 0, Tryd.underlying82, rfl, rfl, by kernel_rfl⟩
instance : Sc Tryd.prog 84 := ⟨_, Tryd.underlying84, rfl, by kernel_rfl⟩
instance : ZeroT Tryd.prog 84 [.nilFunc] := ⟨.nilFunc, by kernel_rfl, .one rfl⟩
instance : Sc Tryd.prog 85 := ⟨_, Tryd.underlying85, rfl, by kernel_rfl⟩
instance : ZeroT Tryd.prog 85 [.nilFunc] := ⟨.nilFunc, by kernel_rfl, .one rfl⟩
instance : Sc Tryd.prog 86 := ⟨_, Tryd.underlying86, rfl, by kernel_rfl⟩
instance : ZeroT Tryd.prog 86 [.nilFunc] := ⟨.nilFunc, by kernel_rfl, .one rfl⟩
instance : Sc Tryd.prog 87 := ⟨_, Tryd.underlying87, rfl, by kernel_rfl⟩
instance : ZeroT Tryd.prog 87 [.pointer none] := ⟨.pointer none, by kernel_rfl, .one rfl⟩
instance : Ag Tryd.prog 88 6 := ⟨_, Tryd.underlying88, rfl, by kernel_rfl⟩
instance : FieldAt Tryd.prog 88 0 0 := ⟨_, _, 4, Tryd.underlying88, rfl, rfl, by kernel_rfl⟩
instance : FieldAt Tryd.prog 88 1 5 := ⟨_, _, 0, Tryd.underlying88, rfl, rfl, by kernel_rfl⟩
instance : OffsT Tryd.prog 88 [(0, 5), (5, 1)] [.int .i64 0, .int .i64 0, .string .empty, .string .empty, .string .empty, .slice none 0 0] := ⟨(([(0, 5), (5, 1)] : List (Nat × Nat)).toArray[·]?), fun _ => by kernel_rfl, fun i p h => by simpa using h⟩
instance : ZeroT Tryd.prog 88 [.int .i64 0, .int .i64 0, .string .empty, .string .empty, .string .empty, .slice none 0 0] := ⟨_, show still Tryd.prog (zeroValue 88) = some (.agg (List.toArray [.int .i64 0, .int .i64 0, .string .empty, .string .empty, .string .empty, .slice none 0 0])) by kernel_rfl, .agg _⟩
instance : Ag Tryd.prog 89 6 := ⟨_, Tryd.underlying89, rfl, by kernel_rfl⟩
instance : FieldAt Tryd.prog 89 0 0 := ⟨_, _, 4, Tryd.underlying89, rfl, rfl, by kernel_rfl⟩
instance : FieldAt Tryd.prog 89 1 5 := ⟨_, _, 0, Tryd.underlying89, rfl, rfl, by kernel_rfl⟩
instance : OffsT Tryd.prog 89 [(0, 5), (5, 1)] [.int .i64 0, .int .i64 0, .string .empty, .string .empty, .string .empty, .slice none 0 0] := ⟨(([(0, 5), (5, 1)] : List (Nat × Nat)).toArray[·]?), fun _ => by kernel_rfl, fun i p h => by simpa using h⟩
instance : ZeroT Tryd.prog 89 [.int .i64 0, .int .i64 0, .string .empty, .string .empty, .string .empty, .slice none 0 0] := ⟨_, show still Tryd.prog (zeroValue 89) = some (.agg (List.toArray [.int .i64 0, .int .i64 0, .string .empty, .string .empty, .string .empty, .slice none 0 0])) by kernel_rfl, .agg _⟩
instance : Sc Tryd.prog 90 := ⟨_, Tryd.underlying90, rfl, by kernel_rfl⟩
instance : ZeroT Tryd.prog 90 [.nilFunc] := ⟨.nilFunc, by kernel_rfl, .one rfl⟩
instance : Sc Tryd.prog 91 := ⟨_, Tryd.underlying91, rfl, by kernel_rfl⟩
instance : ZeroT Tryd.prog 91 [.nilFunc] := ⟨.nilFunc, by kernel_rfl, .one rfl⟩
instance : Sc Tryd.prog 92 := ⟨_, Tryd.underlying92, rfl, by kernel_rfl⟩
instance : ZeroT Tryd.prog 92 [.slice none 0 0] := ⟨.slice none 0 0, by kernel_rfl, .one rfl⟩
instance : SliceT Tryd.prog 92 5 1 1 := ⟨Tryd.underlying92, by decide, by decide, .int .u8 0, by kernel_rfl, by kernel_rfl⟩
instance : Sc Tryd.prog 93 := ⟨_, Tryd.underlying93, rfl, by kernel_rfl⟩
instance : ZeroT Tryd.prog 93 [.nilFunc] := ⟨.nilFunc, by kernel_rfl, .one rfl⟩
instance : Sc Tryd.prog 94 := ⟨_, Tryd.underlying94, rfl, by kernel_rfl⟩
instance : ZeroT Tryd.prog 94 [.nilFunc] := ⟨.nilFunc, by kernel_rfl, .one rfl⟩
instance : Sc Tryd.prog 95 := ⟨_, Tryd.underlying95, rfl, by kernel_rfl⟩
instance : ZeroT Tryd.prog 95 [.nilFunc] := ⟨.nilFunc, by kernel_rfl, .one rfl⟩
instance : Sc Tryd.prog 96 := ⟨_, Tryd.underlying96, rfl, by kernel_rfl⟩
instance : ZeroT Tryd.prog 96 [.nilFunc] := ⟨.nilFunc, by kernel_rfl, .one rfl⟩
instance : Sc Tryd.prog 97 := ⟨_, Tryd.underlying97, rfl, by kernel_rfl⟩
instance : ZeroT Tryd.prog 97 [.nilFunc] := ⟨.nilFunc, by kernel_rfl, .one rfl⟩
instance : Sc Tryd.prog 98 := ⟨_, Tryd.underlying98, rfl, by kernel_rfl⟩
instance : ZeroT Tryd.prog 98 [.nilFunc] := ⟨.nilFunc, by kernel_rfl, .one rfl⟩
instance : Sc Tryd.prog 99 := ⟨_, Tryd.underlying99, rfl, by kernel_rfl⟩
instance : ZeroT Tryd.prog 99 [.nilFunc] := ⟨.nilFunc, by kernel_rfl, .one rfl⟩
instance : Sc Tryd.prog 100 := ⟨_, Tryd.underlying100, rfl, by kernel_rfl⟩
instance : ZeroT Tryd.prog 100 [.nilFunc] := ⟨.nilFunc, by kernel_rfl, .one rfl⟩
instance : Sc Tryd.prog 101 := ⟨_, Tryd.underlying101, rfl, by kernel_rfl⟩
instance : ZeroT Tryd.prog 101 [.nilFunc] := ⟨.nilFunc, by kernel_rfl, .one rfl⟩
instance : Sc Tryd.prog 102 := ⟨_, Tryd.underlying102, rfl, by kernel_rfl⟩
instance : ZeroT Tryd.prog 102 [.nilFunc] := ⟨.nilFunc, by kernel_rfl, .one rfl⟩
instance : Sc Tryd.prog 104 := ⟨_, Tryd.underlying104, rfl, by kernel_rfl⟩
instance : ZeroT Tryd.prog 104 [.nilFunc] := ⟨.nilFunc, by kernel_rfl, .one rfl⟩
instance : Sc Tryd.prog 105 := ⟨_, Tryd.underlying105, rfl, by kernel_rfl⟩
instance : ZeroT Tryd.prog 105 [.nilFunc] := ⟨.nilFunc, by kernel_rfl, .one rfl⟩
instance : Sc Tryd.prog 106 := ⟨_, Tryd.underlying106, rfl, by kernel_rfl⟩
instance : ZeroT Tryd.prog 106 [.nilFunc] := ⟨.nilFunc, by kernel_rfl, .one rfl⟩
instance : Sc Tryd.prog 107 := ⟨_, Tryd.underlying107, rfl, by kernel_rfl⟩
instance : ZeroT Tryd.prog 107 [.nilFunc] := ⟨.nilFunc, by kernel_rfl, .one rfl⟩
instance : Sc Tryd.prog 108 := ⟨_, Tryd.underlying108, rfl, by kernel_rfl⟩
instance : ZeroT Tryd.prog 108 [.nilFunc] := ⟨.nilFunc, by kernel_rfl, .one rfl⟩
instance : Sc Tryd.prog 109 := ⟨_, Tryd.underlying109, rfl, by kernel_rfl⟩
instance : ZeroT Tryd.prog 109 [.nilFunc] := ⟨.nilFunc, by kernel_rfl, .one rfl⟩
instance : Sc Tryd.prog 110 := ⟨_, Tryd.underlying110, rfl, by kernel_rfl⟩
instance : ZeroT Tryd.prog 110 [.nilFunc] := ⟨.nilFunc, by kernel_rfl, .one rfl⟩
instance : Ag Tryd.prog 111 3 := ⟨_, Tryd.underlying111, rfl, by kernel_rfl⟩
instance : ArrT Tryd.prog 111 3 3 1 := ⟨Tryd.underlying111, by kernel_rfl⟩
instance : OffsT Tryd.prog 111 (arrOffs 3 1) [.int .i64 0, .int .i64 0, .int .i64 0] := ⟨fun i => some (i * 1, 1), fun _ => by kernel_rfl, arrOffs_at 3 1⟩
instance : ZeroT Tryd.prog 111 [.int .i64 0, .int .i64 0, .int .i64 0] := ⟨_, show still Tryd.prog (zeroValue 111) = some (.agg (List.toArray [.int .i64 0, .int .i64 0, .int .i64 0])) by kernel_rfl, .agg _⟩
instance : Sc Tryd.prog 112 := ⟨_, Tryd.underlying112, rfl, by kernel_rfl⟩
instance : ZeroT Tryd.prog 112 [.nilIface] := ⟨.nilIface, by kernel_rfl, .one rfl⟩
instance : Sc Tryd.prog 113 := ⟨_, Tryd.underlying113, rfl, by kernel_rfl⟩
instance : ZeroT Tryd.prog 113 [.nilIface] := ⟨.nilIface, by kernel_rfl, .one rfl⟩
instance : Sc Tryd.prog 115 := ⟨_, Tryd.underlying115, rfl, by kernel_rfl⟩
instance : ZeroT Tryd.prog 115 [.nilFunc] := ⟨.nilFunc, by kernel_rfl, .one rfl⟩
instance : Sc Tryd.prog 116 := ⟨_, Tryd.underlying116, rfl, by kernel_rfl⟩
instance : ZeroT Tryd.prog 116 [.int .u64 0] := ⟨.int .u64 0, by kernel_rfl, .one rfl⟩
instance : IntT Tryd.prog 116 .u64 := ⟨Tryd.underlying116⟩
instance : Sc Tryd.prog 117 := ⟨_, Tryd.underlying117, rfl, by kernel_rfl⟩
instance : ZeroT Tryd.prog 117 [.nilFunc] := ⟨.nilFunc, by kernel_rfl, .one rfl⟩
instance : Sc Tryd.prog 119 := ⟨_, Tryd.underlying119, rfl, by kernel_rfl⟩
instance : ZeroT Tryd.prog 119 [.nilFunc] := ⟨.nilFunc, by kernel_rfl, .one rfl⟩
instance : Ag Tryd.prog 120 4 := ⟨_, Tryd.underlying120, rfl, by kernel_rfl⟩
instance : FieldAt Tryd.prog 120 0 0 := ⟨_, _, 0, Tryd.underlying120, rfl, rfl, by kernel_rfl⟩
instance : FieldAt Tryd.prog 120 1 1 := ⟨_, _, 0, Tryd.underlying120, rfl, rfl, by kernel_rfl⟩
instance : FieldAt Tryd.prog 120 2 2 := ⟨_, _, 0, Tryd.underlying120, rfl, rfl, by kernel_rfl⟩
instance : FieldAt Tryd.prog 120 3 3 := ⟨_, _, 0, Tryd.underlying120, rfl, rfl, by kernel_rfl⟩
instance : OffsT Tryd.prog 120 [(0, 1), (1, 1), (2, 1), (3, 1)] [.string .empty, .string .empty, .bool false, .bool false] := ⟨(([(0, 1), (1, 1), (2, 1), (3, 1)] : List (Nat × Nat)).toArray[·]?), fun _ => by kernel_rfl, fun i p h => by simpa using h⟩
instance : ZeroT Tryd.prog 120 [.string .empty, .string .empty, .bool false, .bool false] := ⟨_, show still Tryd.prog (zeroValue 120) = some (.agg (List.toArray [.string .empty, .string .empty, .bool false, .bool false])) by kernel_rfl, .agg _⟩
instance : Ag Tryd.prog 121 4 := ⟨_, Tryd.underlying121, rfl, by kernel_rfl⟩
instance : FieldAt Tryd.prog 121 0 0 := ⟨_, _, 0, Tryd.underlying121, rfl, rfl, by kernel_rfl⟩
instance : FieldAt Tryd.prog 121 1 1 := ⟨_, _, 0, Tryd.underlying121, rfl, rfl, by kernel_rfl⟩
instance : FieldAt Tryd.prog 121 2 2 := ⟨_, _, 0, Tryd.underlying121, rfl, rfl, by kernel_rfl⟩
instance : FieldAt Tryd.prog 121 3 3 := ⟨_, _, 0, Tryd.underlying121, rfl, rfl, by kernel_rfl⟩
instance : OffsT Tryd.prog 121 [(0, 1), (1, 1), (2, 1), (3, 1)] [.string .empty, .string .empty, .bool false, .bool false] := ⟨(([(0, 1), (1, 1), (2, 1), (3, 1)] : List (Nat × Nat)).toArray[·]?), fun _ => by kernel_rfl, fun i p h => by simpa using h⟩
instance : ZeroT Tryd.prog 121 [.string .empty, .string .empty, .bool false, .bool false] := ⟨_, show still Tryd.prog (zeroValue 121) = some (.agg (List.toArray [.string .empty, .string .empty, .bool false, .bool false])) by kernel_rfl, .agg _⟩
instance : Sc Tryd.prog 122 := ⟨_, Tryd.underlying122, rfl, by kernel_rfl⟩
instance : ZeroT Tryd.prog 122 [.nilFunc] := ⟨.nilFunc, by kernel_rfl, .one rfl⟩
instance : Sc Tryd.prog 123 := ⟨_, Tryd.underlying123, rfl, by kernel_rfl⟩
instance : ZeroT Tryd.prog 123 [.nilFunc] := ⟨.nilFunc, by kernel_rfl, .one rfl⟩
instance : Sc Tryd.prog 124 := ⟨_, Tryd.underlying124, rfl, by kernel_rfl⟩
instance : ZeroT Tryd.prog 124 [.nilFunc] := ⟨.nilFunc, by kernel_rfl, .one rfl⟩
instance : Sc Tryd.prog 125 := ⟨_, Tryd.underlying125, rfl, by kernel_rfl⟩
instance : ZeroT Tryd.prog 125 [.nilFunc] := ⟨.nilFunc, by kernel_rfl, .one rfl⟩
instance : Sc Tryd.prog 127 := ⟨_, Tryd.underlying127, rfl, by kernel_rfl⟩
instance : ZeroT Tryd.prog 127 [.nilFunc] := ⟨.nilFunc, by kernel_rfl, .one rfl⟩
instance : Sc Tryd.prog 128 := ⟨_, Tryd.underlying128, rfl, by kernel_rfl⟩
instance : ZeroT Tryd.prog 128 [.nilFunc] := ⟨.nilFunc, by kernel_rfl, .one rfl⟩
instance : Sc Tryd.prog 129 := ⟨_, Tryd.underlying129, rfl, by kernel_rfl⟩
instance : ZeroT Tryd.prog 129 [.nilFunc] := ⟨.nilFunc, by kernel_rfl, .one rfl⟩
instance : Sc Tryd.prog 130 := ⟨_, Tryd.underlying130, rfl, by kernel_rfl⟩
instance : ZeroT Tryd.prog 130 [.nilFunc] := ⟨.nilFunc, by kernel_rfl, .one rfl⟩
instance : Sc Tryd.prog 131 := ⟨_, Tryd.underlying131, rfl, by kernel_rfl⟩
instance : ZeroT Tryd.prog 131 [.map none] := ⟨.map none, by kernel_rfl, .one rfl⟩
instance : Sc Tryd.prog 132 := ⟨_, Tryd.underlying132, rfl, by kernel_rfl⟩
instance : ZeroT Tryd.prog 132 [.nilFunc] := ⟨.nilFunc, by kernel_rfl, .one rfl⟩
instance : Sc Tryd.prog 133 := ⟨_, Tryd.underlying133, rfl, by kernel_rfl⟩
instance : ZeroT Tryd.prog 133 [.nilFunc] := ⟨.nilFunc, by kernel_rfl, .one rfl⟩
instance : Sc Tryd.prog 134 := ⟨_, Tryd.underlying134, rfl, by kernel_rfl⟩
instance : ZeroT Tryd.prog 134 [.nilFunc] := ⟨.nilFunc, by kernel_rfl, .one rfl⟩
instance : Sc Tryd.prog 135 := ⟨_, Tryd.underlying135, rfl, by kernel_rfl⟩
instance : ZeroT Tryd.prog 135 [.nilFunc] := ⟨.nilFunc, by kernel_rfl, .one rfl⟩
instance : Sc Tryd.prog 136 := ⟨_, Tryd.underlying136, rfl, by kernel_rfl⟩
instance : ZeroT Tryd.prog 136 [.nilFunc] := ⟨.nilFunc, by kernel_rfl, .one rfl⟩
instance : Sc Tryd.prog 137 := ⟨_, Tryd.underlying137, rfl, by kernel_rfl⟩
instance : ZeroT Tryd.prog 137 [.nilFunc] := ⟨.nilFunc, by kernel_rfl, .one rfl⟩
instance : Sc Tryd.prog 138 := ⟨_, Tryd.underlying138, rfl, by kernel_rfl⟩
instance : ZeroT Tryd.prog 138 [.nilFunc] := ⟨.nilFunc, by kernel_rfl, .one rfl⟩
instance : Sc Tryd.prog 139 := ⟨_, Tryd.underlying139, rfl, by kernel_rfl⟩
instance : ZeroT Tryd.prog 139 [.nilFunc] := ⟨.nilFunc, by kernel_rfl, .one rfl⟩
instance : Sc Tryd.prog 141 := ⟨_, Tryd.underlying141, rfl, by kernel_rfl⟩
instance : ZeroT Tryd.prog 141 [.nilFunc] := ⟨.nilFunc, by kernel_rfl, .one rfl⟩
instance : Sc Tryd.prog 142 := ⟨_, Tryd.underlying142, rfl, by kernel_rfl⟩
instance : ZeroT Tryd.prog 142 [.nilFunc] := ⟨.nilFunc, by kernel_rfl, .one rfl⟩
instance : Sc Tryd.prog 143 := ⟨_, Tryd.underlying143, rfl, by kernel_rfl⟩
instance : ZeroT Tryd.prog 143 [.nilFunc] := ⟨.nilFunc, by kernel_rfl, .one rfl⟩
instance : Sc Tryd.prog 144 := ⟨_, Tryd.underlying144, rfl, by kernel_rfl⟩
instance : ZeroT Tryd.prog 144 [.nilFunc] := ⟨.nilFunc, by kernel_rfl, .one rfl⟩
instance : Ag Tryd.prog 145 256 := ⟨_, Tryd.underlying145, rfl, by kernel_rfl⟩
instance : ArrT Tryd.prog 145 256 4 1 := ⟨Tryd.underlying145, by kernel_rfl⟩
instance : Ag Tryd.prog 146 256 := ⟨_, Tryd.underlying146, rfl, by kernel_rfl⟩
instance : ArrT Tryd.prog 146 256 4 1 := ⟨Tryd.underlying146, by kernel_rfl⟩
instance : Sc Tryd.prog 148 := ⟨_, Tryd.underlying148, rfl, by kernel_rfl⟩
instance : ZeroT Tryd.prog 148 [.nilFunc] := ⟨.nilFunc, by kernel_rfl, .one rfl⟩
instance : Sc Tryd.prog 149 := ⟨_, Tryd.underlying149, rfl, by kernel_rfl⟩
instance : ZeroT Tryd.prog 149 [.nilFunc] := ⟨.nilFunc, by kernel_rfl, .one rfl⟩
instance : Sc Tryd.prog 150 := ⟨_, Tryd.underlying150, rfl, by kernel_rfl⟩
instance : ZeroT Tryd.prog 150 [.pointer none] := ⟨.pointer none, by kernel_rfl, .one rfl⟩
instance : Sc Tryd.prog 151 := ⟨_, Tryd.underlying151, rfl, by kernel_rfl⟩
instance : ZeroT Tryd.prog 151 [.nilFunc] := ⟨.nilFunc, by kernel_rfl, .one rfl⟩
instance : Sc Tryd.prog 152 := ⟨_, Tryd.underlying152, rfl, by kernel_rfl⟩
instance : ZeroT Tryd.prog 152 [.nilFunc] := ⟨.nilFunc, by kernel_rfl, .one rfl⟩
instance : Sc Tryd.prog 153 := ⟨_, Tryd.underlying153, rfl, by kernel_rfl⟩
instance : ZeroT Tryd.prog 153 [.nilFunc] := ⟨.nilFunc, by kernel_rfl, .one rfl⟩
instance : Sc Tryd.prog 154 := ⟨_, Tryd.underlying154, rfl, by kernel_rfl⟩
instance : ZeroT Tryd.prog 154 [.nilFunc] := ⟨.nilFunc, by kernel_rfl, .one rfl⟩
instance : Sc Tryd.prog 155 := ⟨_, Tryd.underlying155, rfl, by kernel_rfl⟩
instance : ZeroT Tryd.prog 155 [.nilFunc] := ⟨.nilFunc, by kernel_rfl, .one rfl⟩
instance : Sc Tryd.prog 156 := ⟨_, Tryd.underlying156, rfl, by kernel_rfl⟩
instance : ZeroT Tryd.prog 156 [.nilFunc] := ⟨.nilFunc, by kernel_rfl, .one rfl⟩
instance : Sc Tryd.prog 158 := ⟨_, Tryd.underlying158, rfl, by kernel_rfl⟩
instance : ZeroT Tryd.prog 158 [.nilFunc] := ⟨.nilFunc, by kernel_rfl, .one rfl⟩
instance : Sc Tryd.prog 159 := ⟨_, Tryd.underlying159, rfl, by kernel_rfl⟩
instance : ZeroT Tryd.prog 159 [.nilFunc] := ⟨.nilFunc, by kernel_rfl, .one rfl⟩
instance : Sc Tryd.prog 160 := ⟨_, Tryd.underlying160, rfl, by kernel_rfl⟩
instance : ZeroT Tryd.prog 160 [.nilFunc] := ⟨.nilFunc, by kernel_rfl, .one rfl⟩
instance : Sc Tryd.prog 161 := ⟨_, Tryd.underlying161, rfl, by kernel_rfl⟩
instance : ZeroT Tryd.prog 161 [.nilFunc] := ⟨.nilFunc, by kernel_rfl, .one rfl⟩
instance : Sc Tryd.prog 162 := ⟨_, Tryd.underlying162, rfl, by kernel_rfl⟩
instance : ZeroT Tryd.prog 162 [.nilFunc] := ⟨.nilFunc, by kernel_rfl, .one rfl⟩
instance : Sc Tryd.prog 163 := ⟨_, Tryd.underlying163, rfl, by kernel_rfl⟩
instance : ZeroT Tryd.prog 163 [.nilFunc] := ⟨.nilFunc, by kernel_rfl, .one rfl⟩
instance : Sc Tryd.prog 164 := ⟨_, Tryd.underlying164, rfl, by kernel_rfl⟩
instance : ZeroT Tryd.prog 164 [.nilFunc] := ⟨.nilFunc, by kernel_rfl, .one rfl⟩
instance : Sc Tryd.prog 165 := ⟨_, Tryd.underlying165, rfl, by kernel_rfl⟩
instance : ZeroT Tryd.prog 165 [.nilFunc] := ⟨.nilFunc, by kernel_rfl, .one rfl⟩
instance : Ag Tryd.prog 166 1 := ⟨_, Tryd.underlying166, rfl, by kernel_rfl⟩
instance : FieldAt Tryd.prog 166 0 0 := ⟨_, _, 0, Tryd.underlying166, rfl, rfl, by kernel_rfl⟩
instance : OffsT Tryd.prog 166 [(0, 1)] [.slice none 0 0] := ⟨(([(0, 1)] : List (Nat × Nat)).toArray[·]?), fun _ => by kernel_rfl, fun i p h => by simpa using h⟩
instance : ZeroT Tryd.prog 166 [.slice none 0 0] := ⟨_, show still Tryd.prog (zeroValue 166) = some (.agg (List.toArray [.slice none 0 0])) by kernel_rfl, .agg _⟩
instance : Ag Tryd.prog 167 1 := ⟨_, Tryd.underlying167, rfl, by kernel_rfl⟩
instance : FieldAt Tryd.prog 167 0 0 := ⟨_, _, 0, Tryd.underlying167, rfl, rfl, by kernel_rfl⟩
instance : OffsT Tryd.prog 167 [(0, 1)] [.slice none 0 0] := ⟨(([(0, 1)] : List (Nat × Nat)).toArray[·]?), fun _ => by kernel_rfl, fun i p h => by simpa using h⟩
instance : ZeroT Tryd.prog 167 [.slice none 0 0] := ⟨_, show still Tryd.prog (zeroValue 167) = some (.agg (List.toArray [.slice none 0 0])) by kernel_rfl, .agg _⟩
instance : Sc Tryd.prog 168 := ⟨_, Tryd.underlying168, rfl, by kernel_rfl⟩
instance : ZeroT Tryd.prog 168 [.nilFunc] := ⟨.nilFunc, by kernel_rfl, .one rfl⟩
instance : Ag Tryd.prog 169 4 := ⟨_, Tryd.underlying169, rfl, by kernel_rfl⟩
instance : FieldAt Tryd.prog 169 0 0 := ⟨_, _, 0, Tryd.underlying169, rfl, rfl, by kernel_rfl⟩
instance : FieldAt Tryd.prog 169 1 1 := ⟨_, _, 2, Tryd.underlying169, rfl, rfl, by kernel_rfl⟩
instance : OffsT Tryd.prog 169 [(0, 1), (1, 3)] [.int .i64 0, .int .i64 0, .int .i64 0, .int .i64 0] := ⟨(([(0, 1), (1, 3)] : List (Nat × Nat)).toArray[·]?), fun _ => by kernel_rfl, fun i p h => by simpa using h⟩
instance : ZeroT Tryd.prog 169 [.int .i64 0, .int .i64 0, .int .i64 0, .int .i64 0] := ⟨_, show still Tryd.prog (zeroValue 169) = some (.agg (List.toArray [.int .i64 0, .int .i64 0, .int .i64 0, .int .i64 0])) by kernel_rfl, .agg _⟩
instance : Ag Tryd.prog 170 4 := ⟨_, Tryd.underlying170, rfl, by kernel_rfl⟩
instance : FieldAt Tryd.prog 170 0 0 := ⟨_, _, 0, Tryd.underlying170, rfl, rfl, by kernel_rfl⟩
instance : FieldAt Tryd.prog 170 1 1 := ⟨_, _, 2, Tryd.underlying170, rfl, rfl, by kernel_rfl⟩
instance : OffsT Tryd.prog 170 [(0, 1), (1, 3)] [.int .i64 0, .int .i64 0, .int .i64 0, .int .i64 0] := ⟨(([(0, 1), (1, 3)] : List (Nat × Nat)).toArray[·]?), fun _ => by kernel_rfl, fun i p h => by simpa using h⟩
instance : ZeroT Tryd.prog 170 [.int .i64 0, .int .i64 0, .int .i64 0, .int .i64 0] := ⟨_, show still Tryd.prog (zeroValue 170) = some (.agg (List.toArray [.int .i64 0, .int .i64 0, .int .i64 0, .int .i64 0])) by kernel_rfl, .agg _⟩
instance : Sc Tryd.prog 171 := ⟨_, Tryd.underlying171, rfl, by kernel_rfl⟩
instance : ZeroT Tryd.prog 171 [.nilFunc] := ⟨.nilFunc, by kernel_rfl, .one rfl⟩
instance : Sc Tryd.prog 172 := ⟨_, Tryd.underlying172, rfl, by kernel_rfl⟩
instance : ZeroT Tryd.prog 172 [.nilFunc] := ⟨.nilFunc, by kernel_rfl, .one rfl⟩
instance : Sc Tryd.prog 173 := ⟨_, Tryd.underlying173, rfl, by kernel_rfl⟩
instance : ZeroT Tryd.prog 173 [.nilFunc] := ⟨.nilFunc, by kernel_rfl, .one rfl⟩
instance : Sc Tryd.prog 174 := ⟨_, Tryd.underlying174, rfl, by kernel_rfl⟩
instance : ZeroT Tryd.prog 174 [.pointer none] := ⟨.pointer none, by kernel_rfl, .one rfl⟩
instance : Ag Tryd.prog 175 2 := ⟨_, Tryd.underlying175, rfl, by kernel_rfl⟩
instance : FieldAt Tryd.prog 175 0 0 := ⟨_, _, 0, Tryd.underlying175, rfl, rfl, by kernel_rfl⟩
instance : FieldAt Tryd.prog 175 1 1 := ⟨_, _, 0, Tryd.underlying175, rfl, rfl, by kernel_rfl⟩
instance : OffsT Tryd.prog 175 [(0, 1), (1, 1)] [.pointer none, .slice none 0 0] := ⟨(([(0, 1), (1, 1)] : List (Nat × Nat)).toArray[·]?), fun _ => by kernel_rfl, fun i p h => by simpa using h⟩
instance : ZeroT Tryd.prog 175 [.pointer none, .slice none 0 0] := ⟨_, show still Tryd.prog (zeroValue 175) = some (.agg (List.toArray [.pointer none, .slice none 0 0])) by kernel_rfl, .agg _⟩
instance : Ag Tryd.prog 176 2 := ⟨_, Tryd.underlying176, rfl, by kernel_rfl⟩
instance : FieldAt Tryd.prog 176 0 0 := ⟨_, _, 0, Tryd.underlying176, rfl, rfl, by kernel_rfl⟩
instance : FieldAt Tryd.prog 176 1 1 := ⟨_, _, 0, Tryd.underlying176, rfl, rfl, by kernel_rfl⟩
instance : OffsT Tryd.prog 176 [(0, 1), (1, 1)] [.pointer none, .slice none 0 0] := ⟨(([(0, 1), (1, 1)] : List (Nat × Nat)).toArray[·]?), fun _ => by kernel_rfl, fun i p h => by simpa using h⟩
instance : ZeroT Tryd.prog 176 [.pointer none, .slice none 0 0] := ⟨_, show still Tryd.prog (zeroValue 176) = some (.agg (List.toArray [.pointer none, .slice none 0 0])) by kernel_rfl, .agg _⟩
instance : Sc Tryd.prog 177 := ⟨_, Tryd.underlying177, rfl, by kernel_rfl⟩
instance : ZeroT Tryd.prog 177 [.nilFunc] := ⟨.nilFunc, by kernel_rfl, .one rfl⟩
instance : Sc Tryd.prog 178 := ⟨_, Tryd.underlying178, rfl, by kernel_rfl⟩
instance : ZeroT Tryd.prog 178 [.nilFunc] := ⟨.nilFunc, by kernel_rfl, .one rfl⟩
instance : Ag Tryd.prog 179 2 := ⟨_, Tryd.underlying179, rfl, by kernel_rfl⟩
instance : FieldAt Tryd.prog 179 0 0 := ⟨_, _, 0, Tryd.underlying179, rfl, rfl, by kernel_rfl⟩
instance : FieldAt Tryd.prog 179 1 1 := ⟨_, _, 0, Tryd.underlying179, rfl, rfl, by kernel_rfl⟩
instance : OffsT Tryd.prog 179 [(0, 1), (1, 1)] [.int .u8 0, .int .u8 0] := ⟨(([(0, 1), (1, 1)] : List (Nat × Nat)).toArray[·]?), fun _ => by kernel_rfl, fun i p h => by simpa using h⟩
instance : ZeroT Tryd.prog 179 [.int .u8 0, .int .u8 0] := ⟨_, show still Tryd.prog (zeroValue 179) = some (.agg (List.toArray [.int .u8 0, .int .u8 0])) by kernel_rfl, .agg _⟩
instance : Ag Tryd.prog 180 2 := ⟨_, Tryd.underlying180, rfl, by kernel_rfl⟩
instance : FieldAt Tryd.prog 180 0 0 := ⟨_, _, 0, Tryd.underlying180, rfl, rfl, by kernel_rfl⟩
instance : FieldAt Tryd.prog 180 1 1 := ⟨_, _, 0, Tryd.underlying180, rfl, rfl, by kernel_rfl⟩
instance : OffsT Tryd.prog 180 [(0, 1), (1, 1)] [.int .u8 0, .int .u8 0] := ⟨(([(0, 1), (1, 1)] : List (Nat × Nat)).toArray[·]?), fun _ => by kernel_rfl, fun i p h => by simpa using h⟩
instance : ZeroT Tryd.prog 180 [.int .u8 0, .int .u8 0] := ⟨_, show still Tryd.prog (zeroValue 180) = some (.agg (List.toArray [.int .u8 0, .int .u8 0])) by kernel_rfl, .agg _⟩
instance : Ag Tryd.prog 181 32 := ⟨_, Tryd.underlying181, rfl, by kernel_rfl⟩
instance : ArrT Tryd.prog 181 16 180 2 := ⟨Tryd.underlying181, by kernel_rfl⟩
instance : OffsT Tryd.prog 181 (arrOffs 16 2) [.int .u8 0, .int .u8 0, .int .u8 0, .int .u8 0, .int .u8 0, .int .u8 0, .int .u8 0, .int .u8 0, .int .u8 0, .int .u8 0, .int .u8 0, .int .u8 0, .int .u8 0, .int .u8 0, .int .u8 0, .int .u8 0, .int .u8 0, .int .u8 0, .int .u8 0, .int .u8 0, .int .u8 0, .int .u8 0, .int .u8 0, .int .u8 0, .int .u8 0, .int .u8 0, .int .u8 0, .int .u8 0, .int .u8 0, .int .u8 0, .int .u8 0, .int .u8 0] := ⟨fun i => some (i * 2, 2), fun _ => by kernel_rfl, arrOffs_at 16 2⟩
instance : ZeroT Tryd.prog 181 [.int .u8 0, .int .u8 0, .int .u8 0, .int .u8 0, .int .u8 0, .int .u8 0, .int .u8 0, .int .u8 0, .int .u8 0, .int .u8 0, .int .u8 0, .int .u8 0, .int .u8 0, .int .u8 0, .int .u8 0, .int .u8 0, .int .u8 0, .int .u8 0, .int .u8 0, .int .u8 0, .int .u8 0, .int .u8 0, .int .u8 0, .int .u8 0, .int .u8 0, .int .u8 0, .int .u8 0, .int .u8 0, .int .u8 0, .int .u8 0, .int .u8 0, .int .u8 0] := ⟨_, show still Tryd.prog (zeroValue 181) = some (.agg (List.toArray [.int .u8 0, .int .u8 0, .int .u8 0, .int .u8 0, .int .u8 0, .int .u8 0, .int .u8 0, .int .u8 0, .int .u8 0, .int .u8 0, .int .u8 0, .int .u8 0, .int .u8 0, .int .u8 0, .int .u8 0, .int .u8 0, .int .u8 0, .int .u8 0, .int .u8 0, .int .u8 0, .int .u8 0, .int .u8 0, .int .u8 0, .int .u8 0, .int .u8 0, .int .u8 0, .int .u8 0, .int .u8 0, .int .u8 0, .int .u8 0, .int .u8 0, .int .u8 0])) by kernel_rfl, .agg _⟩
instance : Sc Tryd.prog 182 := ⟨_, Tryd.underlying182, rfl, by kernel_rfl⟩
instance : ZeroT Tryd.prog 182 [.nilFunc] := ⟨.nilFunc, by kernel_rfl, .one rfl⟩
instance : Sc Tryd.prog 183 := ⟨_, Tryd.underlying183, rfl, by kernel_rfl⟩
instance : ZeroT Tryd.prog 183 [.nilFunc] := ⟨.nilFunc, by kernel_rfl, .one rfl⟩
instance : Sc Tryd.prog 184 := ⟨_, Tryd.underlying184, rfl, by kernel_rfl⟩
instance : ZeroT Tryd.prog 184 [.nilFunc] := ⟨.nilFunc, by kernel_rfl, .one rfl⟩
instance : Sc Tryd.prog 185 := ⟨_, Tryd.underlying185, rfl, by kernel_rfl⟩
instance : ZeroT Tryd.prog 185 [.nilFunc] := ⟨.nilFunc, by kernel_rfl, .one rfl⟩
instance : Sc Tryd.prog 186 := ⟨_, Tryd.underlying186, rfl, by kernel_rfl⟩
instance : ZeroT Tryd.prog 186 [.nilFunc] := ⟨.nilFunc, by kernel_rfl, .one rfl⟩
instance : Sc Tryd.prog 188 := ⟨_, Tryd.underlying188, rfl, by kernel_rfl⟩
instance : ZeroT Tryd.prog 188 [.nilFunc] := ⟨.nilFunc, by kernel_rfl, .one rfl⟩
instance : Sc Tryd.prog 189 := ⟨_, Tryd.underlying189, rfl, by kernel_rfl⟩
instance : ZeroT Tryd.prog 189 [.nilFunc] := ⟨.nilFunc, by kernel_rfl, .one rfl⟩
instance : Sc Tryd.prog 190 := ⟨_, Tryd.underlying190, rfl, by kernel_rfl⟩
instance : ZeroT Tryd.prog 190 [.int .i64 0] := ⟨.int .i64 0, by kernel_rfl, .one rfl⟩
instance : IntT Tryd.prog 190 .i64 := ⟨Tryd.underlying190⟩
instance : Sc Tryd.prog 192 := ⟨_, Tryd.underlying192, rfl, by kernel_rfl⟩
instance : ZeroT Tryd.prog 192 [.nilFunc] := ⟨.nilFunc, by kernel_rfl, .one rfl⟩
instance : Sc Tryd.prog 193 := ⟨_, Tryd.underlying193, rfl, by kernel_rfl⟩
instance : ZeroT Tryd.prog 193 [.pointer none] := ⟨.pointer none, by kernel_rfl, .one rfl⟩
instance : Sc Tryd.prog 194 := ⟨_, Tryd.underlying194, rfl, by kernel_rfl⟩
instance : ZeroT Tryd.prog 194 [.nilFunc] := ⟨.nilFunc, by kernel_rfl, .one rfl⟩
instance : Sc Tryd.prog 195 := ⟨_, Tryd.underlying195, rfl, by kernel_rfl⟩
instance : ZeroT Tryd.prog 195 [.nilFunc] := ⟨.nilFunc, by kernel_rfl, .one rfl⟩
instance : Sc Tryd.prog 197 := ⟨_, Tryd.underlying197, rfl, by kernel_rfl⟩
instance : ZeroT Tryd.prog 197 [.nilFunc] := ⟨.nilFunc, by kernel_rfl, .one rfl⟩
instance : Sc Tryd.prog 198 := ⟨_, Tryd.underlying198, rfl, by kernel_rfl⟩
instance : ZeroT Tryd.prog 198 [.nilFunc] := ⟨.nilFunc, by kernel_rfl, .one rfl⟩
instance : Sc Tryd.prog 200 := ⟨_, Tryd.underlying200, rfl, by kernel_rfl⟩
instance : ZeroT Tryd.prog 200 [.nilFunc] := ⟨.nilFunc, by kernel_rfl, .one rfl⟩
instance : Sc Tryd.prog 201 := ⟨_, Tryd.underlying201, rfl, by kernel_rfl⟩
instance : ZeroT Tryd.prog 201 [.nilFunc] := ⟨.nilFunc, by kernel_rfl, .one rfl⟩
instance : Sc Tryd.prog 202 := ⟨_, Tryd.underlying202, rfl, by kernel_rfl⟩
instance : ZeroT Tryd.prog 202 [.nilFunc] := ⟨.nilFunc, by kernel_rfl, .one rfl⟩
instance : Sc Tryd.prog 203 := ⟨_, Tryd.underlying203, rfl, by kernel_rfl⟩
instance : ZeroT Tryd.prog 203 [.nilFunc] := ⟨.nilFunc, by kernel_rfl, .one rfl⟩
instance : Sc Tryd.prog 204 := ⟨_, Tryd.underlying204, rfl, by kernel_rfl⟩
instance : ZeroT Tryd.prog 204 [.nilFunc] := ⟨.nilFunc, by kernel_rfl, .one rfl⟩
instance : Sc Tryd.prog 205 := ⟨_, Tryd.underlying205, rfl, by kernel_rfl⟩
instance : ZeroT Tryd.prog 205 [.nilFunc] := ⟨.nilFunc, by kernel_rfl, .one rfl⟩
instance : Sc Tryd.prog 206 := ⟨_, Tryd.underlying206, rfl, by kernel_rfl⟩
instance : ZeroT Tryd.prog 206 [.nilFunc] := ⟨.nilFunc, by kernel_rfl, .one rfl⟩
instance : Sc Tryd.prog 207 := ⟨_, Tryd.underlying207, rfl, by kernel_rfl⟩
instance : ZeroT Tryd.prog 207 [.nilFunc] := ⟨.nilFunc, by kernel_rfl, .one rfl⟩
instance : Sc Tryd.prog 208 := ⟨_, Tryd.underlying208, rfl, by kernel_rfl⟩
instance : ZeroT Tryd.prog 208 [.pointer none] := ⟨.pointer none, by kernel_rfl, .one rfl⟩
instance : Sc Tryd.prog 210 := ⟨_, Tryd.underlying210, rfl, by kernel_rfl⟩
instance : ZeroT Tryd.prog 210 [.nilFunc] := ⟨.nilFunc, by kernel_rfl, .one rfl⟩
instance : Sc Tryd.prog 211 := ⟨_, Tryd.underlying211, rfl, by kernel_rfl⟩
instance : ZeroT Tryd.prog 211 [.nilFunc] := ⟨.nilFunc, by kernel_rfl, .one rfl⟩
instance : Ag Tryd.prog 212 24 := ⟨_, Tryd.underlying212, rfl, by kernel_rfl⟩
instance : ArrT Tryd.prog 212 24 5 1 := ⟨Tryd.underlying212, by kernel_rfl⟩
instance : OffsT Tryd.prog 212 (arrOffs 24 1) [.int .u8 0, .int .u8 0, .int .u8 0, .int .u8 0, .int .u8 0, .int .u8 0, .int .u8 0, .int .u8 0, .int .u8 0, .int .u8 0, .int .u8 0, .int .u8 0, .int .u8 0, .int .u8 0, .int .u8 0, .int .u8 0, .int .u8 0, .int .u8 0, .int .u8 0, .int .u8 0, .int .u8 0, .int .u8 0, .int .u8 0, .int .u8 0] := ⟨fun i => some (i * 1, 1), fun _ => by kernel_rfl, arrOffs_at 24 1⟩
instance : ZeroT Tryd.prog 212 [.int .u8 0, .int .u8 0, .int .u8 0, .int .u8 0, .int .u8 0, .int .u8 0, .int .u8 0, .int .u8 0, .int .u8 0, .int .u8 0, .int .u8 0, .int .u8 0, .int .u8 0, .int .u8 0, .int .u8 0, .int .u8 0, .int .u8 0, .int .u8 0, .int .u8 0, .int .u8 0, .int .u8 0, .int .u8 0, .int .u8 0, .int .u8 0] := ⟨_, show still Tryd.prog (zeroValue 212) = some (.agg (List.toArray [.int .u8 0, .int .u8 0, .int .u8 0, .int .u8 0, .int .u8 0, .int .u8 0, .int .u8 0, .int .u8 0, .int .u8 0, .int .u8 0, .int .u8 0, .int .u8 0, .int .u8 0, .int .u8 0, .int .u8 0, .int .u8 0, .int .u8 0, .int .u8 0, .int .u8 0, .int .u8 0, .int .u8 0, .int .u8 0, .int .u8 0, .int .u8 0])) by kernel_rfl, .agg _⟩
instance : Sc Tryd.prog 213 := ⟨_, Tryd.underlying213, rfl, by kernel_rfl⟩
instance : ZeroT Tryd.prog 213 [.nilFunc] := ⟨.nilFunc, by kernel_rfl, .one rfl⟩
instance : Sc Tryd.prog 214 := ⟨_, Tryd.underlying214, rfl, by kernel_rfl⟩
instance : ZeroT Tryd.prog 214 [.nilFunc] := ⟨.nilFunc, by kernel_rfl, .one rfl⟩
instance : Sc Tryd.prog 216 := ⟨_, Tryd.underlying216, rfl, by kernel_rfl⟩
instance : ZeroT Tryd.prog 216 [.nilFunc] := ⟨.nilFunc, by kernel_rfl, .one rfl⟩
instance : Sc Tryd.prog 217 := ⟨_, Tryd.underlying217, rfl, by kernel_rfl⟩
instance : ZeroT Tryd.prog 217 [.nilFunc] := ⟨.nilFunc, by kernel_rfl, .one rfl⟩
instance : Sc Tryd.prog 218 := ⟨_, Tryd.underlying218, rfl, by kernel_rfl⟩
instance : ZeroT Tryd.prog 218 [.nilFunc] := ⟨.nilFunc, by kernel_rfl, .one rfl⟩
instance : Sc Tryd.prog 220 := ⟨_, Tryd.underlying220, rfl, by kernel_rfl⟩
instance : ZeroT Tryd.prog 220 [.nilFunc] := ⟨.nilFunc, by kernel_rfl, .one rfl⟩
instance : Ag Tryd.prog 221 3 := ⟨_, Tryd.underlying221, rfl, by kernel_rfl⟩
instance : FieldAt Tryd.prog 221 0 0 := ⟨_, _, 0, Tryd.underlying221, rfl, rfl, by kernel_rfl⟩
instance : FieldAt Tryd.prog 221 1 1 := ⟨_, _, 0, Tryd.underlying221, rfl, rfl, by kernel_rfl⟩
instance : FieldAt Tryd.prog 221 2 2 := ⟨_, _, 0, Tryd.underlying221, rfl, rfl, by kernel_rfl⟩
instance : OffsT Tryd.prog 221 [(0, 1), (1, 1), (2, 1)] [.string .empty, .string .empty, .nilIface] := ⟨(([(0, 1), (1, 1), (2, 1)] : List (Nat × Nat)).toArray[·]?), fun _ => by kernel_rfl, fun i p h => by simpa using h⟩
instance : ZeroT Tryd.prog 221 [.string .empty, .string .empty, .nilIface] := ⟨_, show still Tryd.prog (zeroValue 221) = some (.agg (List.toArray [.string .empty, .string .empty, .nilIface])) by kernel_rfl, .agg _⟩
instance : Ag Tryd.prog 222 3 := ⟨_, Tryd.underlying222, rfl, by kernel_rfl⟩
instance : FieldAt Tryd.prog 222 0 0 := ⟨_, _, 0, Tryd.underlying222, rfl, rfl, by kernel_rfl⟩
instance : FieldAt Tryd.prog 222 1 1 := ⟨_, _, 0, Tryd.underlying222, rfl, rfl, by kernel_rfl⟩
instance : FieldAt Tryd.prog 222 2 2 := ⟨_, _, 0, Tryd.underlying222, rfl, rfl, by kernel_rfl⟩
instance : OffsT Tryd.prog 222 [(0, 1), (1, 1), (2, 1)] [.string .empty, .string .empty, .nilIface] := ⟨(([(0, 1), (1, 1), (2, 1)] : List (Nat × Nat)).toArray[·]?), fun _ => by kernel_rfl, fun i p h => by simpa using h⟩
instance : ZeroT Tryd.prog 222 [.string .empty, .string .empty, .nilIface] := ⟨_, show still Tryd.prog (zeroValue 222) = some (.agg (List.toArray [.string .empty, .string .empty, .nilIface])) by kernel_rfl, .agg _⟩
instance : Sc Tryd.prog 223 := ⟨_, Tryd.underlying223, rfl, by kernel_rfl⟩
instance : ZeroT Tryd.prog 223 [.nilFunc] := ⟨.nilFunc, by kernel_rfl, .one rfl⟩
instance : Sc Tryd.prog 224 := ⟨_, Tryd.underlying224, rfl, by kernel_rfl⟩
instance : ZeroT Tryd.prog 224 [.nilFunc] := ⟨.nilFunc, by kernel_rfl, .one rfl⟩
instance : Sc Tryd.prog 225 := ⟨_, Tryd.underlying225, rfl, by kernel_rfl⟩
instance : ZeroT Tryd.prog 225 [.nilFunc] := ⟨.nilFunc, by kernel_rfl, .one rfl⟩
instance : Sc Tryd.prog 226 := ⟨_, Tryd.underlying226, rfl, by kernel_rfl⟩
instance : ZeroT Tryd.prog 226 [.int .u32 0] := ⟨.int .u32 0, by kernel_rfl, .one rfl⟩
instance : IntT Tryd.prog 226 .u32 := ⟨Tryd.underlying226⟩
instance : Sc Tryd.prog 227 := ⟨_, Tryd.underlying227, rfl, by kernel_rfl⟩
instance : Sc Tryd.prog 228 := ⟨_, Tryd.underlying228, rfl, by kernel_rfl⟩
instance : ZeroT Tryd.prog 228 [.nilFunc] := ⟨.nilFunc, by kernel_rfl, .one rfl⟩
instance : Sc Tryd.prog 229 := ⟨_, Tryd.underlying229, rfl, by kernel_rfl⟩
instance : ZeroT Tryd.prog 229 [.nilFunc] := ⟨.nilFunc, by kernel_rfl, .one rfl⟩
instance : Sc Tryd.prog 231 := ⟨_, Tryd.underlying231, rfl, by kernel_rfl⟩
instance : ZeroT Tryd.prog 231 [.nilFunc] := ⟨.nilFunc, by kernel_rfl, .one rfl⟩
instance : Sc Tryd.prog 233 := ⟨_, Tryd.underlying233, rfl, by kernel_rfl⟩
instance : ZeroT Tryd.prog 233 [.nilFunc] := ⟨.nilFunc, by kernel_rfl, .one rfl⟩
instance : Sc Tryd.prog 234 := ⟨_, Tryd.underlying234, rfl, by kernel_rfl⟩
instance : ZeroT Tryd.prog 234 [.nilFunc] := ⟨.nilFunc, by kernel_rfl, .one rfl⟩
instance : Sc Tryd.prog 235 := ⟨_, Tryd.underlying235, rfl, by kernel_rfl⟩
instance : ZeroT Tryd.prog 235 [.nilFunc] := ⟨.nilFunc, by kernel_rfl, .one rfl⟩
instance : Ag Tryd.prog 236 20 := ⟨_, Tryd.underlying236, rfl, by kernel_rfl⟩
instance : ArrT Tryd.prog 236 20 51 1 := ⟨Tryd.underlying236, by kernel_rfl⟩
instance : OffsT Tryd.prog 236 (arrOffs 20 1) [.int .u64 0, .int .u64 0, .int .u64 0, .int .u64 0, .int .u64 0, .int .u64 0, .int .u64 0, .int .u64 0, .int .u64 0, .int .u64 0, .int .u64 0, .int .u64 0, .int .u64 0, .int .u64 0, .int .u64 0, .int .u64 0, .int .u64 0, .int .u64 0, .int .u64 0, .int .u64 0] := ⟨fun i => some (i * 1, 1), fun _ => by kernel_rfl, arrOffs_at 20 1⟩
instance : ZeroT Tryd.prog 236 [.int .u64 0, .int .u64 0, .int .u64 0, .int .u64 0, .int .u64 0, .int .u64 0, .int .u64 0, .int .u64 0, .int .u64 0, .int .u64 0, .int .u64 0, .int .u64 0, .int .u64 0, .int .u64 0, .int .u64 0, .int .u64 0, .int .u64 0, .int .u64 0, .int .u64 0, .int .u64 0] := ⟨_, show still Tryd.prog (zeroValue 236) = some (.agg (List.toArray [.int .u64 0, .int .u64 0, .int .u64 0, .int .u64 0, .int .u64 0, .int .u64 0, .int .u64 0, .int .u64 0, .int .u64 0, .int .u64 0, .int .u64 0, .int .u64 0, .int .u64 0, .int .u64 0, .int .u64 0, .int .u64 0, .int .u64 0, .int .u64 0, .int .u64 0, .int .u64 0])) by kernel_rfl, .agg _⟩
instance : Ag Tryd.prog 237 65 := ⟨_, Tryd.underlying237, rfl, by kernel_rfl⟩
instance : ArrT Tryd.prog 237 65 5 1 := ⟨Tryd.underlying237, by kernel_rfl⟩
instance : Sc Tryd.prog 238 := ⟨_, Tryd.underlying238, rfl, by kernel_rfl⟩
instance : ZeroT Tryd.prog 238 [.nilFunc] := ⟨.nilFunc, by kernel_rfl, .one rfl⟩
instance : Sc Tryd.prog 239 := ⟨_, Tryd.underlying239, rfl, by kernel_rfl⟩
instance : ZeroT Tryd.prog 239 [.nilFunc] := ⟨.nilFunc, by kernel_rfl, .one rfl⟩
instance : Sc Tryd.prog 240 := ⟨_, Tryd.underlying240, rfl, by kernel_rfl⟩
instance : ZeroT Tryd.prog 240 [.nilFunc] := ⟨.nilFunc, by kernel_rfl, .one rfl⟩
instance : Sc Tryd.prog 241 := ⟨_, Tryd.underlying241, rfl, by kernel_rfl⟩
instance : ZeroT Tryd.prog 241 [.pointer none] := ⟨.pointer none, by kernel_rfl, .one rfl⟩
instance : Ag Tryd.prog 242 1 := ⟨_, Tryd.underlying242, rfl, by kernel_rfl⟩
instance : FieldAt Tryd.prog 242 0 0 := ⟨_, _, 0, Tryd.underlying242, rfl, rfl, by kernel_rfl⟩
instance : OffsT Tryd.prog 242 [(0, 1)] [.string .empty] := ⟨(([(0, 1)] : List (Nat × Nat)).toArray[·]?), fun _ => by kernel_rfl, fun i p h => by simpa using h⟩
instance : ZeroT Tryd.prog 242 [.string .empty] := ⟨_, show still Tryd.prog (zeroValue 242) = some (.agg (List.toArray [.string .empty])) by kernel_rfl, .agg _⟩
instance : Ag Tryd.prog 243 1 := ⟨_, Tryd.underlying243, rfl, by kernel_rfl⟩
instance : FieldAt Tryd.prog 243 0 0 := ⟨_, _, 0, Tryd.underlying243, rfl, rfl, by kernel_rfl⟩
instance : OffsT Tryd.prog 243 [(0, 1)] [.string .empty] := ⟨(([(0, 1)] : List (Nat × Nat)).toArray[·]?), fun _ => by kernel_rfl, fun i p h => by simpa using h⟩
instance : ZeroT Tryd.prog 243 [.string .empty] := ⟨_, show still Tryd.prog (zeroValue 243) = some (.agg (List.toArray [.string .empty])) by kernel_rfl, .agg _⟩
instance : Sc Tryd.prog 244 := ⟨_, Tryd.underlying244, rfl, by kernel_rfl⟩
instance : ZeroT Tryd.prog 244 [.nilFunc] := ⟨.nilFunc, by kernel_rfl, .one rfl⟩
instance : Sc Tryd.prog 245 := ⟨_, Tryd.underlying245, rfl, by kernel_rfl⟩
instance : ZeroT Tryd.prog 245 [.nilFunc] := ⟨.nilFunc, by kernel_rfl, .one rfl⟩
instance : Ag Tryd.prog 246 32 := ⟨_, Tryd.underlying246, rfl, by kernel_rfl⟩
instance : ArrT Tryd.prog 246 32 5 1 := ⟨Tryd.underlying246, by kernel_rfl⟩
instance : OffsT Tryd.prog 246 (arrOffs 32 1) [.int .u8 0, .int .u8 0, .int .u8 0, .int .u8 0, .int .u8 0, .int .u8 0, .int .u8 0, .int .u8 0, .int .u8 0, .int .u8 0, .int .u8 0, .int .u8 0, .int .u8 0, .int .u8 0, .int .u8 0, .int .u8 0, .int .u8 0, .int .u8 0, .int .u8 0, .int .u8 0, .int .u8 0, .int .u8 0, .int .u8 0, .int .u8 0, .int .u8 0, .int .u8 0, .int .u8 0, .int .u8 0, .int .u8 0, .int .u8 0, .int .u8 0, .int .u8 0] := ⟨fun i => some (i * 1, 1), fun _ => by kernel_rfl, arrOffs_at 32 1⟩
instance : ZeroT Tryd.prog 246 [.int .u8 0, .int .u8 0, .int .u8 0, .int .u8 0, .int .u8 0, .int .u8 0, .int .u8 0, .int .u8 0, .int .u8 0, .int .u8 0, .int .u8 0, .int .u8 0, .int .u8 0, .int .u8 0, .int .u8 0, .int .u8 0, .int .u8 0, .int .u8 0, .int .u8 0, .int .u8 0, .int .u8 0, .int .u8 0, .int .u8 0, .int .u8 0, .int .u8 0, .int .u8 0, .int .u8 0, .int .u8 0, .int .u8 0, .int .u8 0, .int .u8 0, .int .u8 0] := ⟨_, show still Tryd.prog (zeroValue 246) = some (.agg (List.toArray [.int .u8 0, .int .u8 0, .int .u8 0, .int .u8 0, .int .u8 0, .int .u8 0, .int .u8 0, .int .u8 0, .int .u8 0, .int .u8 0, .int .u8 0, .int .u8 0, .int .u8 0, .int .u8 0, .int .u8 0, .int .u8 0, .int .u8 0, .int .u8 0, .int .u8 0, .int .u8 0, .int .u8 0, .int .u8 0, .int .u8 0, .int .u8 0, .int .u8 0, .int .u8 0, .int .u8 0, .int .u8 0, .int .u8 0, .int .u8 0, .int .u8 0, .int .u8 0])) by kernel_rfl, .agg _⟩
instance : Ag Tryd.prog 247 64 := ⟨_, Tryd.underlying247, rfl, by kernel_rfl⟩
instance : ArrT Tryd.prog 247 64 5 1 := ⟨Tryd.underlying247, by kernel_rfl⟩
instance : Ag Tryd.prog 248 4 := ⟨_, Tryd.underlying248, rfl, by kernel_rfl⟩
instance : FieldAt Tryd.prog 248 0 0 := ⟨_, _, 0, Tryd.underlying248, rfl, rfl, by kernel_rfl⟩
instance : FieldAt Tryd.prog 248 1 1 := ⟨_, _, 0, Tryd.underlying248, rfl, rfl, by kernel_rfl⟩
instance : FieldAt Tryd.prog 248 2 2 := ⟨_, _, 0, Tryd.underlying248, rfl, rfl, by kernel_rfl⟩
instance : FieldAt Tryd.prog 248 3 3 := ⟨_, _, 0, Tryd.underlying248, rfl, rfl, by kernel_rfl⟩
instance : OffsT Tryd.prog 248 [(0, 1), (1, 1), (2, 1), (3, 1)] [.pointer none, .pointer none, .pointer none, .string .empty] := ⟨(([(0, 1), (1, 1), (2, 1), (3, 1)] : List (Nat × Nat)).toArray[·]?), fun _ => by kernel_rfl, fun i p h => by simpa using h⟩
instance : ZeroT Tryd.prog 248 [.pointer none, .pointer none, .pointer none, .string .empty] := ⟨_, show still Tryd.prog (zeroValue 248) = some (.agg (List.toArray [.pointer none, .pointer none, .pointer none, .string .empty])) by kernel_rfl, .agg _⟩
instance : Ag Tryd.prog 249 4 := ⟨_, Tryd.underlying249, rfl, by kernel_rfl⟩
instance : FieldAt Tryd.prog 249 0 0 := ⟨_, _, 0, Tryd.underlying249, rfl, rfl, by kernel_rfl⟩
instance : FieldAt Tryd.prog 249 1 1 := ⟨_, _, 0, Tryd.underlying249, rfl, rfl, by kernel_rfl⟩
instance : FieldAt Tryd.prog 249 2 2 := ⟨_, _, 0, Tryd.underlying249, rfl, rfl, by kernel_rfl⟩
instance : FieldAt Tryd.prog 249 3 3 := ⟨_, _, 0, Tryd.underlying249, rfl, rfl, by kernel_rfl⟩
instance : OffsT Tryd.prog 249 [(0, 1), (1, 1), (2, 1), (3, 1)] [.pointer none, .pointer none, .pointer none, .string .empty] := ⟨(([(0, 1), (1, 1), (2, 1), (3, 1)] : List (Nat × Nat)).toArray[·]?), fun _ => by kernel_rfl, fun i p h => by simpa using h⟩
instance : ZeroT Tryd.prog 249 [.pointer none, .pointer none, .pointer none, .string .empty] := ⟨_, show still Tryd.prog (zeroValue 249) = some (.agg (List.toArray [.pointer none, .pointer none, .pointer none, .string .empty])) by kernel_rfl, .agg _⟩
instance : Sc Tryd.prog 253 := ⟨_, Tryd.underlying253, rfl, by kernel_rfl⟩
instance : ZeroT Tryd.prog 253 [.int .u8 0] := ⟨.int .u8 0, by kernel_rfl, .one rfl⟩
instance : IntT Tryd.prog 253 .u8 := ⟨Tryd.underlying253⟩
instance : Sc Tryd.prog 254 := ⟨_, Tryd.underlying254, rfl, by kernel_rfl⟩
instance : ZeroT Tryd.prog 254 [.int .u8 0] := ⟨.int .u8 0, by kernel_rfl, .one rfl⟩
instance : IntT Tryd.prog 254 .u8 := ⟨Tryd.underlying254⟩
instance : Sc Tryd.prog 255 := ⟨_, Tryd.underlying255, rfl, by kernel_rfl⟩
instance : ZeroT Tryd.prog 255 [.nilFunc] := ⟨.nilFunc, by kernel_rfl, .one rfl⟩
instance : Sc Tryd.prog 256 := ⟨_, Tryd.underlying256, rfl, by kernel_rfl⟩
instance : ZeroT Tryd.prog 256 [.int .i32 0] := ⟨.int .i32 0, by kernel_rfl, .one rfl⟩
instance : IntT Tryd.prog 256 .i32 := ⟨Tryd.underlying256⟩
instance : Sc Tryd.prog 257 := ⟨_, Tryd.underlying257, rfl, by kernel_rfl⟩
instance : ZeroT Tryd.prog 257 [.int .i32 0] := ⟨.int .i32 0, by kernel_rfl, .one rfl⟩
instance : IntT Tryd.prog 257 .i32 := ⟨Tryd.underlying257⟩
instance : Ag Tryd.prog 258 11 := ⟨_, Tryd.underlying258, rfl, by kernel_rfl⟩
instance : FieldAt Tryd.prog 258 0 0 := ⟨_, _, 0, Tryd.underlying258, rfl, rfl, by kernel_rfl⟩
instance : FieldAt Tryd.prog 258 1 1 := ⟨_, _, 0, Tryd.underlying258, rfl, rfl, by kernel_rfl⟩
instance : FieldAt Tryd.prog 258 2 2 := ⟨_, _, 0, Tryd.underlying258, rfl, rfl, by kernel_rfl⟩
instance : FieldAt Tryd.prog 258 3 3 := ⟨_, _, 0, Tryd.underlying258, rfl, rfl, by kernel_rfl⟩
instance : FieldAt Tryd.prog 258 4 4 := ⟨_, _, 0, Tryd.underlying258, rfl, rfl, by kernel_rfl⟩
instance : FieldAt Tryd.prog 258 5 5 := ⟨_, _, 0, Tryd.underlying258, rfl, rfl, by kernel_rfl⟩
instance : FieldAt Tryd.prog 258 6 6 := ⟨_, _, 0, Tryd.underlying258, rfl, rfl, by kernel_rfl⟩
instance : FieldAt Tryd.prog 258 7 7 := ⟨_, _, 0, Tryd.underlying258, rfl, rfl, by kernel_rfl⟩
instance : FieldAt Tryd.prog 258 8 8 := ⟨_, _, 0, Tryd.underlying258, rfl, rfl, by kernel_rfl⟩
instance : FieldAt Tryd.prog 258 9 9 := ⟨_, _, 0, Tryd.underlying258, rfl, rfl, by kernel_rfl⟩
instance : FieldAt Tryd.prog 258 10 10 := ⟨_, _, 0, Tryd.underlying258, rfl, rfl, by kernel_rfl⟩
instance : OffsT Tryd.prog 258 [(0, 1), (1, 1), (2, 1), (3, 1), (4, 1), (5, 1), (6, 1), (7, 1), (8, 1), (9, 1), (10, 1)] [.int .u64 0, .int .u64 0, .int .u32 0, .int .u8 0, .int .u8 0, .int .u8 0, .int .u8 0, .nilFunc, .pointer none, .int .i32 0, .int .i32 0] := ⟨(([(0, 1), (1, 1), (2, 1), (3, 1), (4, 1), (5, 1), (6, 1), (7, 1), (8, 1), (9, 1), (10, 1)] : List (Nat × Nat)).toArray[·]?), fun _ => by kernel_rfl, fun i p h => by simpa using h⟩
instance : ZeroT Tryd.prog 258 [.int .u64 0, .int .u64 0, .int .u32 0, .int .u8 0, .int .u8 0, .int .u8 0, .int .u8 0, .nilFunc, .pointer none, .int .i32 0, .int .i32 0] := ⟨_, show still Tryd.prog (zeroValue 258) = some (.agg (List.toArray [.int .u64 0, .int .u64 0, .int .u32 0, .int .u8 0, .int .u8 0, .int .u8 0, .int .u8 0, .nilFunc, .pointer none, .int .i32 0, .int .i32 0])) by kernel_rfl, .agg _⟩
instance : Ag Tryd.prog 259 11 := ⟨_, Tryd.underlying259, rfl, by kernel_rfl⟩
instance : FieldAt Tryd.prog 259 0 0 := ⟨_, _, 0, Tryd.underlying259, rfl, rfl, by kernel_rfl⟩
instance : FieldAt Tryd.prog 259 1 1 := ⟨_, _, 0, Tryd.underlying259, rfl, rfl, by kernel_rfl⟩
instance : FieldAt Tryd.prog 259 2 2 := ⟨_, _, 0, Tryd.underlying259, rfl, rfl, by kernel_rfl⟩
instance : FieldAt Tryd.prog 259 3 3 := ⟨_, _, 0, Tryd.underlying259, rfl, rfl, by kernel_rfl⟩
instance : FieldAt Tryd.prog 259 4 4 := ⟨_, _, 0, Tryd.underlying259, rfl, rfl, by kernel_rfl⟩
instance : FieldAt Tryd.prog 259 5 5 := ⟨_, _, 0, Tryd.underlying259, rfl, rfl, by kernel_rfl⟩
instance : FieldAt Tryd.prog 259 6 6 := ⟨_, _, 0, Tryd.underlying259, rfl, rfl, by kernel_rfl⟩
instance : FieldAt Tryd.prog 259 7 7 := ⟨_, _, 0, Tryd.underlying259, rfl, rfl, by kernel_rfl⟩
instance : FieldAt Tryd.prog 259 8 8 := ⟨_, _, 0, Tryd.underlying259, rfl, rfl, by kernel_rfl⟩
instance : FieldAt Tryd.prog 259 9 9 := ⟨_, _, 0, Tryd.underlying259, rfl, rfl, by kernel_rfl⟩
instance : FieldAt Tryd.prog 259 10 10 := ⟨_, _, 0, Tryd.underlying259, rfl, rfl, by kernel_rfl⟩
instance : OffsT Tryd.prog 259 [(0, 1), (1, 1), (2, 1), (3, 1), (4, 1), (5, 1), (6, 1), (7, 1), (8, 1), (9, 1), (10, 1)] [.int .u64 0, .int .u64 0, .int .u32 0, .int .u8 0, .int .u8 0, .int .u8 0, .int .u8 0, .nilFunc, .pointer none, .int .i32 0, .int .i32 0] := ⟨(([(0, 1), (1, 1), (2, 1), (3, 1), (4, 1), (5, 1), (6, 1), (7, 1), (8, 1), (9, 1), (10, 1)] : List (Nat × Nat)).toArray[·]?), fun _ => by kernel_rfl, fun i p h => by simpa using h⟩
instance : ZeroT Tryd.prog 259 [.int .u64 0, .int .u64 0, .int .u32 0, .int .u8 0, .int .u8 0, .int .u8 0, .int .u8 0, .nilFunc, .pointer none, .int .i32 0, .int .i32 0] := ⟨_, show still Tryd.prog (zeroValue 259) = some (.agg (List.toArray [.int .u64 0, .int .u64 0, .int .u32 0, .int .u8 0, .int .u8 0, .int .u8 0, .int .u8 0, .nilFunc, .pointer none, .int .i32 0, .int .i32 0])) by kernel_rfl, .agg _⟩
end Go.Proofs.YtflmckoolagikaaDoor
end
section
namespace Go.Proofs.YtflmckoolagikaaDoor
open Go Go.RowKit Go.Fw Go.Sx
theorem maxLen_cell (W : World) (hS : W.ShapedOpen Tryd.prog) : ∃ m, ∀ H w, Holds ⟨W.heap.size, W⟩ H w → w.cell? ⟨2, 0, none⟩ = some (.int .i64 m) := by
  obtain ⟨m, hm⟩ := cell_of_shapedOpen_int (P := Tryd.prog) (w := W) (g := 2) (t := 3) (zero := #[.int .i64 0]) (k := .i64) hS (by decide +kernel) (by kernel_rfl) rfl (by kernel_rfl) (by kernel_rfl) Tryd.underlying3
  refine ⟨m, fun H w hw => ?_⟩
  have hlt : 2 < W.heap.size := by
    rcases Nat.lt_or_ge 2 W.heap.size with h | h
    · exact h
    · exfalso
      simp [World.cell?, Array.getElem?_eq_none h] at hm
  have e := hw.below.block 2 hlt
  rw [← hm]
  unfold World.cell?
  rw [e]
end Go.Proofs.YtflmckoolagikaaDoor
end
section
namespace Go.Sx
open Go Go.RowKit Go.Fw
section
variable {P : Program} {G : Ctx} {n : Nat} {ops : Array Oper} {Q : Post} {s : Fm} {H : List Ent} {o : Oper} {rest : List Oper}
end
end Go.Sx
namespace Go.Sx
open Go Go.RowKit Go.Fw
section
variable {P : Program} {G : Ctx} {n : Nat} {ops : Array Oper} {Q : Post} {s : Fm} {H : List Ent} {o : Oper} {rest : List Oper}
end
end Go.Sx
namespace Go.Sx
open Go Go.RowKit Go.Fw
class PickObj (H : List Ent) (g : Nat) (o : outParam Obj) (H' : outParam (List Ent)) : Prop where
  here : Pick (.obj g o) H H'
instance (priority := low) pickObjTail {H H' : List Ent} {g : Nat} {o : Obj} {x : Ent} [h : PickObj H g o H'] : PickObj (x :: H) g o (x :: H') := ⟨.there h.here⟩
instance pickObjHead {H : List Ent} {g : Nat} {o : Obj} : PickObj (.obj g o :: H) g o H := ⟨.here _⟩
section
variable {P : Program} {G : Ctx} {n : Nat} {ops : Array Oper} {Q : Post} {s : Fm} {H : List Ent} {o : Oper} {rest : List Oper}
/-- A byte of a text, by its value. -/
theorem c_indexNumV {t : Nat} {x y : Operand} {k : IntKind} {i v : Int} {b : ByteArray} (hv : (nums b).getD i.toNat 0 = v) (ho : o.op = .index t x y) [h : StrT P t] (hx : ev s x = some (.string b)) (hy : ev s y = some (.int k i)) (h0 : 0 ≤ i) (hi : i < b.size) : Yields P G n s H o (.int .u8 v) := hv ▸ c_indexNum ho hx hy h0 hi
/-- A piece of a text, by its value. -/
theorem c_sliceStrV {t : TypeId} {x : Operand} {lo hi : Option Operand} {b v : ByteArray} {l h : Int} (hv : b.extract l.toNat h.toNat = v) (ho : o.op = .slice t x lo hi none) [ht : StrT P t] (hx : ev s x = some (.string b)) (hl : bnd s 0 lo = some l) (hh : bnd s b.size hi = some h) (h0 : 0 ≤ l) (h1 : l ≤ h) (h2 : h ≤ b.size) : Yields P G n s H o (.string v) := hv ▸ c_sliceStr ho hx hl hh h0 h1 h2
end
end Go.Sx
namespace Go.Sx
open Go Go.RowKit Go.Fw
theorem sc_mk {P : Program} {G : Ctx} {f : FuncId} {args : List Value} {H : List Ent} {R : Value → List Ent → Prop} (hc : Sx.Callee P f) (h : ∀ w, Holds G H w → Calls P f args.toArray w fun e w' => ∃ v H', e = .returned v ∧ Holds G H' w' ∧ R v H') : SC P G f args H R := ⟨hc, h⟩
section
variable {P : Program} {G : Ctx} {n : Nat} {ops : Array Oper} {Q : Post} {s : Fm} {H : List Ent} {o : Oper} {rest : List Oper}
end
theorem bb_bitsV {P : Program} {K : Value → Prop} {x y : Operand} {t : TypeId} {op : BinOp} {k : IntKind} {p q D : Int} (hop : (match op with | .and | .or | .xor | .andNot => true | _ => false) = true) (hD : ibits op k p q = D) (hk : K (.int k D)) : BB P op t x y (.int k p) (.int k q) K := bb_bits hop (hD ▸ hk)
end Go.Sx
namespace Go.Sx
open Go Go.RowKit Go.Fw
end Go.Sx
namespace Go.Sx
open Go Go.RowKit Go.Fw
end Go.Sx
namespace Go.Sx
open Go Go.RowKit Go.Fw
section
variable {P : Program} {ops : Array Oper} {Q : Exit → Act → World → Prop} {md : Region.Mode}
variable {S : Array Bool → World → Prop}
end
section
variable {P : Program} {G : Ctx} {n : Nat} {ops : Array Oper} {Q : Post} {s : Fm} {H H1 Hs : List Ent} {o : Oper} {fuel st : Nat} {done : List Nat}
end
end Go.Sx
namespace Go.Sx
open Go Go.RowKit Go.Fw
def rowObj (e : TypeId) (cs : List Value) : Obj := .cells cs.toArray e (cs.length, cs.length + 1)
theorem bytesObj_row (e : TypeId) (xs : List Int) (m : Nat) : bytesObj e xs m = rowObj e (octs xs ++ List.replicate m (Value.int .u8 0)) := by
  unfold bytesObj rowObj
  simp [octs]
/-- A row of bytes: what is held, where it lies, how long it is. -/
inductive BufE (e : TypeId) : Ent → Option Addr → Nat → Nat → List Int → Prop where
  | own (a : Option Addr) (n c : Nat) (xs : List Int) : BufE e (.own e 1 a n c (octs xs)) a n c xs
  | obj (g n c : Nat) (xs : List Int) (tl : List Value) (hn : n = xs.length) (hc : c = n + tl.length) (hm : c ≤ maxLen) : BufE e (.obj g (rowObj e (octs xs ++ tl))) (some ⟨g, 0, none⟩) n c xs
class PickE (H : List Ent) (X : Ent) (H' : outParam (List Ent)) : Prop where
  here : Pick X H H'
instance (priority := low) pickETail {H H' : List Ent} {X x : Ent} [h : PickE H X H'] : PickE (x :: H) X (x :: H') := ⟨.there h.here⟩
instance pickEHead {H : List Ent} {X : Ent} : PickE (X :: H) X H := ⟨.here _⟩
section
variable {P : Program} {G : Ctx} {n : Nat} {ops : Array Oper} {Q : Post} {s : Fm} {H : List Ent} {o : Oper} {rest : List Oper}
theorem BufE.len {e : TypeId} {X : Ent} {a : Option Addr} {m c : Nat} {xs : List Int} (h : BufE e X a m c xs) {w : World} (hw : Holds G (X :: H) w) : m = xs.length := by
  cases h with
  | own =>
    have := (hw.ok _ List.mem_cons_self : w.ownsRow G.B e 1 (.slice a m c) m (octs xs)).1
    simp [octs] at this
    exact this.symm
  | obj g n c xs tl hn hc hm => exact hn
/-- A text made to a row of bytes. -/
theorem BufE.conv {e : TypeId} {g c : Nat} (b : ByteArray) (hc : b.size ≤ c) (hm : c ≤ maxLen) : BufE e (.obj g (bytesObj e (nums b) (c - b.size))) (some ⟨g, 0, none⟩) b.size c (nums b) := by
  rw [bytesObj_row]
  exact .obj g b.size c (nums b) _ (nums_length b).symm (by rw [List.length_replicate]; omega) hm
end
end Go.Sx
end
section
namespace Go.Proofs.YtflmckoolagikaaDoor
open Go Go.RowKit Go.Fw Go.Sx
set_option maxRecDepth 100000
attribute [local irreducible] SW SL SQ AtQ SV SC BB LD PK Yields
def betB (x lo hi : Int) : Bool := decide (lo ≤ x ∧ x ≤ hi)
theorem between_sv (G : Ctx) (H : List Ent) (x lo hi : Int) : SV Tryd.prog G 26 [.int .i64 x, .int .i64 lo, .int .i64 hi] H (.bool (betB x lo hi)) := by
  refine sv_enter3 Tryd.func26 rfl rfl rfl rfl rfl ?_
  repeat' (first | (apply g_sl; first | (apply ks_nil; refine sl_nil ?_) | (apply ks_move; refine s_move rfl rfl ?_) | (apply ks_bin; refine s_bin rfl rfl rfl ?_; first | fail | (first | refine bb_of rfl ?_)) | (apply ks_asgn; refine s_asgn rfl rfl ?_) | (apply ks_pick; refine s_pick rfl rfl ?_; first | (apply kp_t; refine pk_t rfl ?_) | (apply kp_f; refine pk_f rfl ?_) | refine pk_s rfl rfl ?_) | (apply ks_guard; first | (refine sl_gd rfl rfl rfl rfl ?_; first | (apply gd_t) | (apply gd_ft) | (apply gd_tf) | (apply gd_dec_t <;> intro hq <;> (try (exfalso; omega))) | (apply gd_dec_f <;> intro hq <;> (try (exfalso; omega))) | (apply gd_beq_t <;> intro hq <;> (try (exfalso; omega))) | (apply gd_beq_f <;> intro hq <;> (try (exfalso; omega))) | (apply gd_bne_t <;> intro hq <;> (try (exfalso; omega))) | (apply gd_bne_f <;> intro hq <;> (try (exfalso; omega))) | (apply gd_not_t <;> intro hq) | (apply gd_not_f <;> intro hq) | (apply gd_raw_t <;> intro hq) | (apply gd_raw_f <;> intro hq)) | refine sl_skip_u rfl rfl rfl rfl rfl rfl ?_) | fail) | (apply sw_seq) | (apply at_srd) | (apply sw_skip) | (apply sw_ret) | (apply sw_exit) | (apply sw_block) | (apply sw_region) | (refine sw_cd rfl ?_; first | (apply gd_t) | (apply gd_ft) | (apply gd_tf) | (apply gd_dec_t <;> intro hq <;> (try (exfalso; omega))) | (apply gd_dec_f <;> intro hq <;> (try (exfalso; omega))) | (apply gd_beq_t <;> intro hq <;> (try (exfalso; omega))) | (apply gd_beq_f <;> intro hq <;> (try (exfalso; omega))) | (apply gd_bne_t <;> intro hq <;> (try (exfalso; omega))) | (apply gd_bne_f <;> intro hq <;> (try (exfalso; omega))) | (apply gd_not_t <;> intro hq) | (apply gd_not_f <;> intro hq) | (apply gd_raw_t <;> intro hq) | (apply gd_raw_f <;> intro hq)) | (apply at_thn) | (apply at_thn_ret) | (apply at_thn_exit) | (apply at_inb) | (apply at_inb_ret) | (apply at_inb_exit) | refine at_inb_pass rfl ?_ | refine c_drawn (by kernel_rfl) ?_)
  all_goals (refine e_sv (by first | exact .inl rfl | exact .inr rfl) rfl (by repeat (first | exact List.Sublist.refl _ | exact List.nil_sublist _ | refine List.Sublist.cons _ ?_)) ?_; first | exact rb_t (by omega) | exact rb_f (by omega) | exact rb_d (by omega) | exact rb_n (by omega))
attribute [irreducible] betB
end Go.Proofs.YtflmckoolagikaaDoor
end
section
namespace Go.Fw
/-- The first k letters of the first n are their last k. -/
def Bd (p : Nat → Int) (n k : Nat) : Prop := k ≤ n ∧ ∀ j, j < k → p j = p (n - k + j)
theorem Bd.zero (p : Nat → Int) (n : Nat) : Bd p n 0 := ⟨Nat.zero_le _, fun j hj => absurd hj (Nat.not_lt_zero _)⟩
theorem Bd.trans {p : Nat → Int} {n k j : Nat} (h : Bd p n k) (h' : Bd p k j) : Bd p n j := by
  obtain ⟨h1, h2⟩ := h
  obtain ⟨h3, h4⟩ := h'
  refine ⟨by omega, fun t ht => ?_⟩
  rw [h4 t ht, h2 (k - j + t) (by omega)]
  congr 1
  omega
theorem Bd.inner {p : Nat → Int} {n k j : Nat} (h : Bd p n k) (h' : Bd p n j) (hj : j ≤ k) : Bd p k j := by
  obtain ⟨h1, h2⟩ := h
  obtain ⟨h3, h4⟩ := h'
  refine ⟨hj, fun t ht => ?_⟩
  rw [h4 t ht, h2 (k - j + t) (by omega)]
  congr 1
  omega
theorem Bd.succ {p : Nat → Int} {n k : Nat} : Bd p (n + 1) (k + 1) ↔ Bd p n k ∧ p k = p n := by
  constructor
  · rintro ⟨h1, h2⟩
    refine ⟨⟨by omega, fun j hj => ?_⟩, ?_⟩
    · rw [h2 j (by omega)]; congr 1; omega
    · rw [h2 k (by omega)]; congr 1; omega
  · rintro ⟨⟨h1, h2⟩, h3⟩
    refine ⟨by omega, fun j hj => ?_⟩
    rcases Nat.lt_or_ge j k with h | h
    · rw [h2 j h]; congr 1; omega
    · obtain rfl : j = k := by omega
      rw [h3]; congr 1; omega
/-- The longest border that is shorter than the word. -/
def IsB (p : Nat → Int) (n k : Nat) : Prop := k < n ∧ Bd p n k ∧ ∀ j, j < n → Bd p n j → j ≤ k
theorem IsB.one (p : Nat → Int) : IsB p 1 0 := ⟨Nat.zero_lt_one, Bd.zero p 1, fun j hj _ => by omega⟩
/-- What holds on the way from n letters to n + 1. -/
def OnWay (p : Nat → Int) (n k : Nat) : Prop := k < n ∧ Bd p n k ∧ ∀ j, j < n → Bd p n j → p j = p n → j ≤ k
theorem OnWay.step {p : Nat → Int} {n k k' : Nat} (h : OnWay p n k) (hne : ¬ p n = p k) (hk : IsB p k k') : OnWay p n k' := by
  obtain ⟨h1, h2, h3⟩ := h
  obtain ⟨g1, g2, g3⟩ := hk
  refine ⟨by omega, h2.trans g2, fun j hj hb hp => ?_⟩
  have hle := h3 j hj hb hp
  have hlt : j < k := by
    rcases Nat.lt_or_ge j k with h | h
    · exact h
    · obtain rfl : j = k := by omega
      exact absurd hp.symm hne
  exact g3 j hlt (h2.inner hb hle)
theorem OnWay.no {p : Nat → Int} {n : Nat} (h : OnWay p n 0) (hne : ¬ p n = p 0) : IsB p (n + 1) 0 := by
  obtain ⟨h1, h2, h3⟩ := h
  refine ⟨by omega, Bd.zero _ _, fun j hj hb => ?_⟩
  cases j with
  | zero => omega
  | succ j =>
    obtain ⟨g1, g2⟩ := Bd.succ.1 hb
    have h0 := h3 j (by omega) g1 g2
    obtain rfl : j = 0 := by omega
    exact absurd g2.symm hne
end Go.Fw
namespace Go.Fw
/-- The first k letters of the word are the last k of the first i of the text. -/
def Mt (p t : Nat → Int) (i k : Nat) : Prop := k ≤ i ∧ ∀ j, j < k → p j = t (i - k + j)
theorem Mt.zero (p t : Nat → Int) (i : Nat) : Mt p t i 0 := ⟨Nat.zero_le _, fun j hj => absurd hj (Nat.not_lt_zero _)⟩
theorem Mt.trans {p t : Nat → Int} {i k j : Nat} (h : Mt p t i k) (h' : Bd p k j) : Mt p t i j := by
  obtain ⟨h1, h2⟩ := h
  obtain ⟨h3, h4⟩ := h'
  refine ⟨by omega, fun u hu => ?_⟩
  rw [h4 u hu, h2 (k - j + u) (by omega)]
  congr 1
  omega
theorem Mt.inner {p t : Nat → Int} {i k j : Nat} (h : Mt p t i k) (h' : Mt p t i j) (hj : j ≤ k) : Bd p k j := by
  obtain ⟨h1, h2⟩ := h
  obtain ⟨h3, h4⟩ := h'
  refine ⟨hj, fun u hu => ?_⟩
  rw [h4 u hu, h2 (k - j + u) (by omega)]
  congr 1
  omega
theorem Mt.succ {p t : Nat → Int} {i k : Nat} : Mt p t (i + 1) (k + 1) ↔ Mt p t i k ∧ p k = t i := by
  constructor
  · rintro ⟨h1, h2⟩
    refine ⟨⟨by omega, fun j hj => ?_⟩, ?_⟩
    · rw [h2 j (by omega)]; congr 1; omega
    · rw [h2 k (by omega)]; congr 1; omega
  · rintro ⟨⟨h1, h2⟩, h3⟩
    refine ⟨by omega, fun j hj => ?_⟩
    rcases Nat.lt_or_ge j k with h | h
    · rw [h2 j h]; congr 1; omega
    · obtain rfl : j = k := by omega
      rw [h3]; congr 1; omega
def IsM (p t : Nat → Int) (n i k : Nat) : Prop := k ≤ n ∧ Mt p t i k ∧ ∀ j, j ≤ n → Mt p t i j → j ≤ k
theorem IsM.none (p t : Nat → Int) (n : Nat) : IsM p t n 0 0 := ⟨Nat.zero_le _, Mt.zero _ _ _, fun j _ h => by have := h.1; omega⟩
def OnM (p t : Nat → Int) (n i k : Nat) : Prop := k ≤ n ∧ Mt p t i k ∧ ∀ j, j < n → Mt p t i j → p j = t i → j ≤ k
theorem OnM.step {p t : Nat → Int} {n i k k' : Nat} (h : OnM p t n i k) (hne : k = n ∨ ¬ t i = p k) (hk : IsB p k k') : OnM p t n i k' := by
  obtain ⟨h1, h2, h3⟩ := h
  obtain ⟨g1, g2, g3⟩ := hk
  refine ⟨by omega, h2.trans g2, fun j hj hm hp => ?_⟩
  have hle := h3 j hj hm hp
  have hlt : j < k := by
    rcases Nat.lt_or_ge j k with h | h
    · exact h
    · obtain rfl : j = k := by omega
      rcases hne with hne | hne
      · omega
      · exact absurd hp.symm hne
  exact g3 j hlt (h2.inner hm hle)
theorem OnM.no {p t : Nat → Int} {n i : Nat} (h : OnM p t n i 0) (hne : ¬ t i = p 0) : IsM p t n (i + 1) 0 := by
  obtain ⟨h1, h2, h3⟩ := h
  refine ⟨Nat.zero_le _, Mt.zero _ _ _, fun j hj hm => ?_⟩
  cases j with
  | zero => omega
  | succ j =>
    obtain ⟨g1, g2⟩ := Mt.succ.1 hm
    have h0 := h3 j (by omega) g1 g2
    obtain rfl : j = 0 := by omega
    exact absurd g2.symm hne
/-- The word stands at place q of the text. -/
def Oc (p t : Nat → Int) (n q : Nat) : Prop := ∀ j, j < n → p j = t (q + j)
theorem IsM.found {p t : Nat → Int} {n i k : Nat} (h : IsM p t n i k) (hn : n ≤ i) : k = n ↔ Oc p t n (i - n) := by
  constructor
  · rintro rfl; exact h.2.1.2
  · intro ho
    exact Nat.le_antisymm h.1 (h.2.2 n (Nat.le_refl _) ⟨hn, ho⟩)
instance (p t : Nat → Int) (n q : Nat) : Decidable (Oc p t n q) := by unfold Oc; infer_instance
end Go.Fw
end
section
namespace Go.Proofs.YtflmckoolagikaaDoor
open Go Go.RowKit Go.Fw Go.Sx
set_option maxRecDepth 100000
set_option maxHeartbeats 1000000
attribute [local irreducible] SW SL SQ AtQ SV SC BB LD PK Yields
theorem ints_at (xs : List Int) (k : Nat) (h : k < xs.length) : (ints xs)[(k : Int).toNat * 1]? = some (.int .i64 (xs.getD k 0)) := by
  simp [ints, List.getD, List.getElem?_eq_getElem h]
end Go.Proofs.YtflmckoolagikaaDoor
end
section
namespace Go.Proofs.YtflmckoolagikaaDoor
open Go Go.RowKit Go.Fw Go.Sx
theorem bet_sv (G : Ctx) (H : List Ent) (x lo hi : Int) : SV Tryd.prog G 26 [.int .i64 x, .int .i64 lo, .int .i64 hi] H (.bool (decide (lo ≤ x ∧ x ≤ hi))) := by have h := between_sv G H x lo hi; unfold betB at h; exact h
end Go.Proofs.YtflmckoolagikaaDoor
end
section
namespace Go.Fw
open Go Go.RowKit Go.Sx
/-- A name, a value, is it a user's, has it a value. -/
abbrev Vr := ByteArray × ByteArray × Bool × Bool
def vrC (v : Vr) : List Value := [.string v.1, .string v.2.1, .bool v.2.2.1, .bool v.2.2.2]
instance : En vrC 4 := ⟨fun _ => rfl⟩
def vrs (L : List Vr) : List Value := L.flatMap vrC
@[simp] theorem vrs_len (L : List Vr) : (vrs L).length = L.length * 4 := fm_len L
def many (st : List Int → Option (Vr × List Int)) : Nat → List Int → Option (List Vr)
  | _, [] => some []
  | 0, _ :: _ => none
  | m + 1, x :: l => match st (x :: l) with
    | none => none
    | some (v, r) => (many st m r).map (v :: ·)
end Go.Fw
end
section
namespace Go.Fw
open Go Go.RowKit Go.Sx
/-- Numbers of bytes. -/
def Oct (x : Int) : Prop := 0 ≤ x ∧ x ≤ 255
end Go.Fw
end
section
namespace Go.Proofs.YtflmckoolagikaaDoor
open Go.RowKit Go.Fw
theorem u8i : (Tryd.prog.info? 5).map (fun i => (i.zero, i.size, i.bytes)) = some (some (.int .u8 0), 1, 1) := by kernel_rfl
/-- Bytes of numbers. -/
def bytesOf (xs : List Int) : ByteArray := strOfNums (xs.map (· % 256))
def bytesAt (xs : List Int) (n k : Nat) : List Value := octs ((xs.take k).map (· % 256) ++ List.replicate (n - k) 0)
theorem bytesAt_zero (xs : List Int) (n : Nat) : (madeCells #[Value.int .u8 0] n).toList = bytesAt xs n 0 := by
  rw [toList_madeCells_one]; simp [bytesAt, octs]
theorem bytesAt_get (xs : List Int) (n k : Nat) (hn : n = xs.length) (hk : k < n) : (bytesAt xs n k)[k]? = some (.int .u8 0) := by
  unfold bytesAt octs
  rw [List.getElem?_map, List.getElem?_append_right (by simp; omega)]
  have : k - (List.map (fun x => x % 256) (List.take k xs)).length = 0 := by simp; omega
  rw [this]
  obtain ⟨m, hm⟩ : ∃ m, n - k = m + 1 := ⟨n - k - 1, by omega⟩
  rw [hm]; rfl
theorem bytesAt_set (xs : List Int) (n k : Nat) (hn : n = xs.length) (hk : k < n) : (bytesAt xs n k).set k (.int .u8 (xs[k]?.getD 0 % 256)) = bytesAt xs n (k + 1) := by
  unfold bytesAt octs
  have hk' : k < xs.length := by omega
  have e : List.take (k + 1) xs = List.take k xs ++ [xs[k]] := by rw [List.take_succ_eq_append_getElem hk']
  obtain ⟨m, hm⟩ : ∃ m, n - k = m + 1 := ⟨n - k - 1, by omega⟩
  rw [e, hm, show n - (k + 1) = m from by omega, List.map_append, List.set_append_right _ _ (by simp; omega)]
  have h0 : k - (List.map (Value.int .u8) (List.map (fun x => x % 256) (List.take k xs))).length = 0 := by simp; omega
  rw [h0, List.replicate_succ]
  rw [List.getElem?_eq_getElem hk']
  simp only [List.map_append, List.map_cons, List.map_nil, List.append_assoc, List.set_cons_zero, List.cons_append, List.nil_append, Option.getD_some]
theorem bytesAt_all (xs : List Int) (n : Nat) (hn : n = xs.length) : bytesAt xs n n = octs (xs.map (· % 256)) := by
  subst hn; simp [bytesAt]
set_option maxRecDepth 100000 in
theorem bytes_any (xs : List Int) (a : Option Addr) (n c : Nat) (w : World) (hn : n = xs.length) (hl : xs.length ≤ 100000) (hx : At w a (ints xs)) :
    Calls Tryd.prog 47 #[.slice a n c] w fun e w' => e = .returned (.string (bytesOf xs)) ∧ Below w.heap.size w w' := by
  obtain ⟨i0, hi, hz0, hz1, hz2⟩ := info_parts u8i
  have Hn := Lib.hid hn
  rw [← hn] at hl
  clear hn
  go_enter Tryd.func47, Tryd.ntmps47
  go_wp2_with (at_make; refine wpList_make_full _ rfl _ _ 92 rfl w.heap.size 5 i0 (.int .u8 0) 1 Tryd.underlying92 hi hz0 hz1 .i64 .i64 _ _ n rfl rfl rfl rfl ?c1 ?c2 ?c3 ?_)
  case c1 => rw [hz2]; omega
  case c2 => unfold maxLen; omega
  case c3 => exact Nat.le_refl _
  intro w1 hown hgr
  have hb1 : Below w.heap.size w w1 := (Below.refl _ w).grown hgr (Nat.le_refl _) (fun _ h => by cases h)
  go_wp2
  go_loopw [11] (fun i wr => ∃ k : Nat, k ≤ n ∧ i = .int .i64 k ∧ wr.ownsRow w.heap.size 5 1 (.slice (some ⟨w.heap.size, 0, none⟩) n n) n (bytesAt xs n k) ∧ Below w.heap.size w wr) (fun i _ => n - (intOf i).toNat)
  case atStart => exact ⟨0, Nat.zero_le _, rfl, by rw [← bytesAt_zero]; exact hown, hb1⟩
  case round =>
    clear hown hb1 hgr
    obtain ⟨k, hk, rfl, hown, hbl⟩ := hrel
    by_cases hlt : k < n
    · obtain ⟨b, o, ha, hb, hc⟩ := hx.int (i := k) (by rw [← Hn.out]; exact hlt)
      rw [ha]
      have hcx : wr.cell? ⟨b, o + k, none⟩ = some (.int .i64 (xs.getD k 0)) := (hbl.cell (by exact hb)).trans (hc k (by rw [← Hn.out]; exact hlt))
      have hcg : wr.cell? ⟨w.heap.size, k, none⟩ = some (.int .u8 0) := by rw [hown.cellAt k (by omega)]; exact bytesAt_get xs n k Hn.out hlt
      have hfg : wr.frozen? ⟨w.heap.size, k, none⟩ = false := hown.frozenAt k
      clear hc ha
      go_wp2
      go_roundw
      case rel => exact ⟨k + 1, by omega, by go_num, by rw [← bytesAt_set xs n k Hn.out hlt]; exact (hown.stored k _).1, hbl.setCell (Nat.le_refl _) _⟩
      case measure => simp [intOf]; omega
    · obtain rfl : k = n := by omega
      rw [bytesAt_all xs k Hn.out] at hown
      have hcv := run_convert_bytes_arg (P := Tryd.prog) wr 92 5 Tryd.underlying92 Tryd.underlying5 w.heap.size 0 k k (xs.map (· % 256)) (by rw [Hn.out]; simp)
        (fun i hi => by rw [Nat.zero_add, hown.cellAt i (by omega)]; simp [octs, List.getD, List.getElem?_eq_getElem (show i < xs.length by rw [← Hn.out]; exact hi)]) 9 Tryd.underlying9
      go_wp2
      go_ret
      exact ⟨rfl, hbl⟩
end Go.Proofs.YtflmckoolagikaaDoor
end
section
namespace Go.Proofs.YtflmckoolagikaaDoor
open Go Go.RowKit Go.Fw Go.Sx
set_option maxRecDepth 100000
set_option maxHeartbeats 2000000
attribute [local irreducible] SW SL SQ AtQ SV SC BB LD PK Yields SO SOT SOA SY
theorem bytes_sv (G : Ctx) (H : List Ent) (xs : List Int) {vs : List Value} (a : Option Addr) (n c : Nat) [h1 : RdC G H a vs] (hv : vs = ints xs) (hn : n = xs.length) (hl : xs.length ≤ 100000) (ho : ∀ x ∈ xs, Oct x) : SV Tryd.prog G 47 [.slice a n c] H (.string (strOfNums xs)) := by
  subst hv
  have e : bytesOf xs = strOfNums xs := by
    have : xs.map (· % 256) = xs := by
      refine (List.map_congr_left fun x hx => ?_).trans (List.map_id _)
      have := ho x hx
      show x % 256 = x
      exact Int.emod_eq_of_lt this.1 (by have := this.2; omega)
    first | (unfold bytesOf; rw [this]) | skip
  rw [← e]
  exact sv_of_calls (callee_of Tryd.func47 rfl rfl) fun w hw => bytes_any xs a n c w hn hl (h1.here w hw)
end Go.Proofs.YtflmckoolagikaaDoor
end
section
namespace Go.Proofs.YtflmckoolagikaaDoor
open Go.Shelf
def Tryd.laysM171_ren : Go.Shelf.Ren := ⟨fun | 171 => 43 | 243 => 88 | 246 => 136 | 283 => 164 | 284 => 165 | 285 => 166 | 286 => 167 | 129 => 187 | 317 => 186 | 318 => 188 | 319 => 189 | 320 => 190 | 337 => 197 | 338 => 198 | n => n, fun | 3 => 3 | 9 => 9 | 2 => 2 | 4 => 4 | 171 => 212 | 0 => 0 | 53 => 51 | 37 => 92 | 5 => 5 | 173 => 215 | 212 => 236 | 51 => 226 | 20 => 20 | 213 => 237 | 46 => 116 | 232 => 246 | 233 => 247 | n => n, fun | 17 => 5 | 18 => 6 | 19 => 7 | n => n⟩
theorem Tryd.laysM171 : Go.Proofs.LaysM.n171 Tryd.prog Tryd.laysM171_ren := {
  mixed := by kernel_rfl
  f129 := Tryd.func187.trans (congrArg some (by kernel_rfl))
  f171 := Tryd.func43.trans (congrArg some (by kernel_rfl))
  f243 := Tryd.func88.trans (congrArg some (by kernel_rfl))
  f246 := Tryd.func136.trans (congrArg some (by kernel_rfl))
  f283 := Tryd.func164.trans (congrArg some (by kernel_rfl))
  f284 := Tryd.func165.trans (congrArg some (by kernel_rfl))
  f285 := Tryd.func166.trans (congrArg some (by kernel_rfl))
  f286 := Tryd.func167.trans (congrArg some (by kernel_rfl))
  f317 := Tryd.func186.trans (congrArg some (by kernel_rfl))
  f318 := Tryd.func188.trans (congrArg some (by kernel_rfl))
  f319 := Tryd.func189.trans (congrArg some (by kernel_rfl))
  f320 := Tryd.func190.trans (congrArg some (by kernel_rfl))
  f337 := Tryd.func197.trans (congrArg some (by kernel_rfl))
  f338 := Tryd.func198.trans (congrArg some (by kernel_rfl))
  t0 := Tryd.underlying0
  a0 := Tryd.isAgg0
  z0 := Tryd.sizeOf0
  v0 := Tryd.zeroValue0
  t2 := Tryd.underlying2
  a2 := Tryd.isAgg2
  z2 := Tryd.sizeOf2
  v2 := Tryd.zeroValue2
  t3 := Tryd.underlying3
  a3 := Tryd.isAgg3
  z3 := Tryd.sizeOf3
  v3 := Tryd.zeroValue3
  t4 := Tryd.underlying4
  a4 := Tryd.isAgg4
  z4 := Tryd.sizeOf4
  v4 := Tryd.zeroValue4
  t5 := Tryd.underlying5
  a5 := Tryd.isAgg5
  z5 := Tryd.sizeOf5
  v5 := Tryd.zeroValue5
  t9 := Tryd.underlying9
  a9 := Tryd.isAgg9
  z9 := Tryd.sizeOf9
  v9 := Tryd.zeroValue9
  t20 := Tryd.underlying20
  a20 := Tryd.isAgg20
  z20 := Tryd.sizeOf20
  v20 := Tryd.zeroValue20
  t37 := Tryd.underlying92
  a37 := Tryd.isAgg92
  z37 := Tryd.sizeOf92
  v37 := Tryd.zeroValue92
  t46 := Tryd.underlying116
  a46 := Tryd.isAgg116
  z46 := Tryd.sizeOf116
  v46 := Tryd.zeroValue116
  t51 := Tryd.underlying226
  a51 := Tryd.isAgg226
  z51 := Tryd.sizeOf226
  v51 := Tryd.zeroValue226
  t53 := Tryd.underlying51
  a53 := Tryd.isAgg51
  z53 := Tryd.sizeOf51
  v53 := Tryd.zeroValue51
  t171 := Tryd.underlying212
  a171 := Tryd.isAgg212
  z171 := Tryd.sizeOf212
  v171 := Tryd.zeroValue212
  t173 := Tryd.underlying215
  a173 := Tryd.isAgg215
  z173 := Tryd.sizeOf215
  v173 := Tryd.zeroValue215
  t212 := Tryd.underlying236
  a212 := Tryd.isAgg236
  z212 := Tryd.sizeOf236
  v212 := Tryd.zeroValue236
  t213 := Tryd.underlying237
  a213 := Tryd.isAgg237
  z213 := Tryd.sizeOf237
  t232 := Tryd.underlying246
  a232 := Tryd.isAgg246
  z232 := Tryd.sizeOf246
  v232 := Tryd.zeroValue246
  t233 := Tryd.underlying247
  a233 := Tryd.isAgg247
  z233 := Tryd.sizeOf247
  v233 := Tryd.zeroValue247
  g17 := by kernel_rfl
  g18 := by kernel_rfl
  g19 := by kernel_rfl
  i0 := by kernel_rfl
  i2 := by kernel_rfl
  i3 := by kernel_rfl
  i4 := by kernel_rfl
  i5 := by kernel_rfl
  i9 := by kernel_rfl
  i20 := by kernel_rfl
  i37 := by kernel_rfl
  i46 := by kernel_rfl
  i51 := by kernel_rfl
  i53 := by kernel_rfl
  i171 := by kernel_rfl
  i173 := by kernel_rfl
  i212 := by kernel_rfl
  i232 := by kernel_rfl
  i233 := by kernel_rfl
  m17 := by kernel_rfl
  m18 := by kernel_rfl
  m19 := by kernel_rfl }
open Go.RowKit Go.Sort Go.Lib in
theorem Tryd.strconv_Itoa (n : Int) (h0 : -9223372036854775808 ≤ n) (h1 : n ≤ 9223372036854775807) (w : World) (htab : Lib.TabIs Tryd.prog w "internal/strconv.uint64pow10" .u64 Lib.pow10Tab) :
    Calls Tryd.prog 43 #[.int .i64 n] w fun e w' => e = .returned (.string ⟨(Lib.itoa n).toArray⟩) ∧ ∃ k os, w' = grow (w.drewN k) os := Any.strconv_Itoa Tryd.laysM171 n h0 h1 w htab
def Tryd.laysC172_ren : Go.Shelf.Ren := ⟨fun | 172 => 51 | 244 => 96 | 245 => 97 | 247 => 143 | 279 => 144 | 280 => 145 | 281 => 146 | 282 => 147 | 287 => 173 | 316 => 174 | 171 => 43 | 205 => 175 | 321 => 195 | 322 => 196 | 243 => 88 | 246 => 136 | 283 => 164 | 284 => 165 | 285 => 166 | 286 => 167 | 129 => 187 | 317 => 186 | 318 => 188 | 319 => 189 | 320 => 190 | 337 => 197 | 338 => 198 | n => n, fun | 9 => 9 | 3 => 3 | 75 => 113 | 76 => 114 | 4 => 4 | 5 => 5 | 167 => 190 | 37 => 92 | 0 => 0 | 85 => 191 | 2 => 2 | 168 => 193 | 53 => 51 | 175 => 219 | 46 => 116 | 210 => 222 | 127 => 208 | 145 => 243 | 143 => 241 | 21 => 21 | 171 => 212 | 173 => 215 | 212 => 236 | 51 => 226 | 20 => 20 | 213 => 237 | 232 => 246 | 233 => 247 | 80 => 177 | n => n, fun | 15 => 3 | 16 => 4 | 17 => 5 | 18 => 6 | 19 => 7 | n => n⟩
theorem Tryd.laysC172 : Go.Proofs.LaysC.n172 Tryd.prog Tryd.laysC172_ren := {
  mixed := by kernel_rfl
  f129 := Tryd.func187.trans (congrArg some (by kernel_rfl))
  f171 := Tryd.func43.trans (congrArg some (by kernel_rfl))
  f172 := Tryd.func51.trans (congrArg some (by kernel_rfl))
  f205 := Tryd.func175.trans (congrArg some (by kernel_rfl))
  f243 := Tryd.func88.trans (congrArg some (by kernel_rfl))
  f244 := Tryd.func96.trans (congrArg some (by kernel_rfl))
  f245 := Tryd.func97.trans (congrArg some (by kernel_rfl))
  f246 := Tryd.func136.trans (congrArg some (by kernel_rfl))
  f247 := Tryd.func143.trans (congrArg some (by kernel_rfl))
  f279 := Tryd.func144.trans (congrArg some (by kernel_rfl))
  f280 := Tryd.func145.trans (congrArg some (by kernel_rfl))
  f281 := Tryd.func146.trans (congrArg some (by kernel_rfl))
  f282 := Tryd.func147.trans (congrArg some (by kernel_rfl))
  f283 := Tryd.func164.trans (congrArg some (by kernel_rfl))
  f284 := Tryd.func165.trans (congrArg some (by kernel_rfl))
  f285 := Tryd.func166.trans (congrArg some (by kernel_rfl))
  f286 := Tryd.func167.trans (congrArg some (by kernel_rfl))
  f287 := Tryd.func173.trans (congrArg some (by kernel_rfl))
  f316 := Tryd.func174.trans (congrArg some (by kernel_rfl))
  f317 := Tryd.func186.trans (congrArg some (by kernel_rfl))
  f318 := Tryd.func188.trans (congrArg some (by kernel_rfl))
  f319 := Tryd.func189.trans (congrArg some (by kernel_rfl))
  f320 := Tryd.func190.trans (congrArg some (by kernel_rfl))
  f321 := Tryd.func195.trans (congrArg some (by kernel_rfl))
  f322 := Tryd.func196.trans (congrArg some (by kernel_rfl))
  f337 := Tryd.func197.trans (congrArg some (by kernel_rfl))
  f338 := Tryd.func198.trans (congrArg some (by kernel_rfl))
  t0 := Tryd.underlying0
  a0 := Tryd.isAgg0
  z0 := Tryd.sizeOf0
  v0 := Tryd.zeroValue0
  t2 := Tryd.underlying2
  a2 := Tryd.isAgg2
  z2 := Tryd.sizeOf2
  v2 := Tryd.zeroValue2
  t3 := Tryd.underlying3
  a3 := Tryd.isAgg3
  z3 := Tryd.sizeOf3
  v3 := Tryd.zeroValue3
  t4 := Tryd.underlying4
  a4 := Tryd.isAgg4
  z4 := Tryd.sizeOf4
  v4 := Tryd.zeroValue4
  t5 := Tryd.underlying5
  a5 := Tryd.isAgg5
  z5 := Tryd.sizeOf5
  v5 := Tryd.zeroValue5
  t9 := Tryd.underlying9
  a9 := Tryd.isAgg9
  z9 := Tryd.sizeOf9
  v9 := Tryd.zeroValue9
  t20 := Tryd.underlying20
  a20 := Tryd.isAgg20
  z20 := Tryd.sizeOf20
  v20 := Tryd.zeroValue20
  t21 := Tryd.underlying21
  a21 := Tryd.isAgg21
  z21 := Tryd.sizeOf21
  v21 := Tryd.zeroValue21
  t37 := Tryd.underlying92
  a37 := Tryd.isAgg92
  z37 := Tryd.sizeOf92
  v37 := Tryd.zeroValue92
  t46 := Tryd.underlying116
  a46 := Tryd.isAgg116
  z46 := Tryd.sizeOf116
  v46 := Tryd.zeroValue116
  t51 := Tryd.underlying226
  a51 := Tryd.isAgg226
  z51 := Tryd.sizeOf226
  v51 := Tryd.zeroValue226
  t53 := Tryd.underlying51
  a53 := Tryd.isAgg51
  z53 := Tryd.sizeOf51
  v53 := Tryd.zeroValue51
  t75 := Tryd.underlying113
  a75 := Tryd.isAgg113
  z75 := Tryd.sizeOf113
  v75 := Tryd.zeroValue113
  t76 := Tryd.underlying114
  a76 := Tryd.isAgg114
  z76 := Tryd.sizeOf114
  v76 := Tryd.zeroValue114
  t85 := Tryd.underlying191
  a85 := Tryd.isAgg191
  z85 := Tryd.sizeOf191
  v85 := Tryd.zeroValue191
  t127 := Tryd.underlying208
  a127 := Tryd.isAgg208
  z127 := Tryd.sizeOf208
  v127 := Tryd.zeroValue208
  t143 := Tryd.underlying241
  a143 := Tryd.isAgg241
  z143 := Tryd.sizeOf241
  v143 := Tryd.zeroValue241
  t145 := Tryd.underlying243
  a145 := Tryd.isAgg243
  z145 := Tryd.sizeOf243
  v145 := Tryd.zeroValue243
  t167 := Tryd.underlying190
  a167 := Tryd.isAgg190
  z167 := Tryd.sizeOf190
  v167 := Tryd.zeroValue190
  t168 := Tryd.underlying193
  a168 := Tryd.isAgg193
  z168 := Tryd.sizeOf193
  v168 := Tryd.zeroValue193
  t171 := Tryd.underlying212
  a171 := Tryd.isAgg212
  z171 := Tryd.sizeOf212
  v171 := Tryd.zeroValue212
  t173 := Tryd.underlying215
  a173 := Tryd.isAgg215
  z173 := Tryd.sizeOf215
  v173 := Tryd.zeroValue215
  t175 := Tryd.underlying219
  a175 := Tryd.isAgg219
  z175 := Tryd.sizeOf219
  v175 := Tryd.zeroValue219
  t210 := Tryd.underlying222
  a210 := Tryd.isAgg222
  z210 := Tryd.sizeOf222
  v210 := Tryd.zeroValue222
  t212 := Tryd.underlying236
  a212 := Tryd.isAgg236
  z212 := Tryd.sizeOf236
  v212 := Tryd.zeroValue236
  t213 := Tryd.underlying237
  a213 := Tryd.isAgg237
  z213 := Tryd.sizeOf237
  t232 := Tryd.underlying246
  a232 := Tryd.isAgg246
  z232 := Tryd.sizeOf246
  v232 := Tryd.zeroValue246
  t233 := Tryd.underlying247
  a233 := Tryd.isAgg247
  z233 := Tryd.sizeOf247
  v233 := Tryd.zeroValue247
  g15 := by kernel_rfl
  g16 := by kernel_rfl
  g17 := by kernel_rfl
  g18 := by kernel_rfl
  g19 := by kernel_rfl
  t80 := Tryd.underlying177
  a80 := Tryd.isAgg177
  z80 := Tryd.sizeOf177
  v80 := Tryd.zeroValue177
  i0 := by kernel_rfl
  i2 := by kernel_rfl
  i3 := by kernel_rfl
  i4 := by kernel_rfl
  i5 := by kernel_rfl
  i9 := by kernel_rfl
  i20 := by kernel_rfl
  i21 := by kernel_rfl
  i37 := by kernel_rfl
  i46 := by kernel_rfl
  i51 := by kernel_rfl
  i53 := by kernel_rfl
  i75 := by kernel_rfl
  i76 := by kernel_rfl
  i80 := by kernel_rfl
  i85 := by kernel_rfl
  i127 := by kernel_rfl
  i143 := by kernel_rfl
  i145 := by kernel_rfl
  i167 := by kernel_rfl
  i168 := by kernel_rfl
  i171 := by kernel_rfl
  i173 := by kernel_rfl
  i175 := by kernel_rfl
  i210 := by kernel_rfl
  i212 := by kernel_rfl
  i232 := by kernel_rfl
  i233 := by kernel_rfl
  m15 := by kernel_rfl
  m16 := by kernel_rfl
  m17 := by kernel_rfl
  m18 := by kernel_rfl
  m19 := by kernel_rfl
  c0 := by kernel_rfl
  c2 := by kernel_rfl
  c3 := by kernel_rfl
  c4 := by kernel_rfl
  c5 := by kernel_rfl
  c9 := by kernel_rfl
  c20 := by kernel_rfl
  c21 := by kernel_rfl
  c37 := by kernel_rfl
  c46 := by kernel_rfl
  c51 := by kernel_rfl
  c53 := by kernel_rfl
  c75 := by kernel_rfl
  c76 := by kernel_rfl
  c80 := by kernel_rfl
  c85 := by kernel_rfl
  c127 := by kernel_rfl
  c143 := by kernel_rfl
  c145 := by kernel_rfl
  c167 := by kernel_rfl
  c168 := by kernel_rfl
  c171 := by kernel_rfl
  c173 := by kernel_rfl
  c175 := by kernel_rfl
  c210 := by kernel_rfl
  c212 := by kernel_rfl
  c213 := by kernel_rfl
  c232 := by kernel_rfl
  c233 := by kernel_rfl }
open Go.RowKit in
theorem Tryd.strconv_Atoi_ok (s : ByteArray) (hmax : s.size ≤ 9223372036854775806) (v : Int) (h : Lib.atoiAll s.data.toList = .ok v) (w : World) :
    Calls Tryd.prog 51 #[.string s] w fun e w' => e = .returned (.tuple #[.int .i64 v, .nilIface]) ∧ (w' = w ∨ ∃ t, w' = Lib.bytesWorld w 5 t) := Any.strconv_Atoi_ok Tryd.laysC172 s hmax v h w
open Go.RowKit in
theorem Tryd.strconv_Atoi_range (s : ByteArray) (hlim : s.size ≤ 281474976710656) (h : Lib.atoiAll s.data.toList = .range) (ev : Value) (w : World) (hv : w.cell? ⟨4, 0, none⟩ = some ev) (hev : ev = .nilIface ∨ ∃ te pe, ev = .iface te pe) :
    Calls Tryd.prog 51 #[.string s] w fun e w' => ∃ N, e = .returned (.tuple #[.int .i64 (Lib.atoiSat s.data.toList), .iface 193 (.pointer (some ⟨N, 0, none⟩))]) ∧ w.heap.size ≤ N ∧ w'.heap[N]? = some (.cells #[.string ⟨#[65, 116, 111, 105]⟩, .string s, ev] 222 (0, 0)) ∧ Below w.heap.size w w' := Any.strconv_Atoi_range Tryd.laysC172 s hlim h ev w hv hev
def Tryd.lays100_ren : Go.Shelf.Ren := ⟨fun | 100 => 52 | 207 => 98 | n => n, fun | 9 => 9 | 4 => 4 | 3 => 3 | n => n, fun | n => n⟩
theorem Tryd.lays100 : Go.Proofs.Lays.n100 Tryd.prog Tryd.lays100_ren := {
  mixed := by kernel_rfl
  f100 := Tryd.func52.trans (congrArg some (by kernel_rfl))
  f207 := Tryd.func98.trans (congrArg some (by kernel_rfl))
  t3 := Tryd.underlying3
  a3 := Tryd.isAgg3
  z3 := Tryd.sizeOf3
  v3 := Tryd.zeroValue3
  t4 := Tryd.underlying4
  a4 := Tryd.isAgg4
  z4 := Tryd.sizeOf4
  v4 := Tryd.zeroValue4
  t9 := Tryd.underlying9
  a9 := Tryd.isAgg9
  z9 := Tryd.sizeOf9
  v9 := Tryd.zeroValue9 }
open Go.RowKit Go.Lib in
theorem Tryd.strings_HasSuffix (s p : ByteArray) (w : World) (hs : s.size ≤ 9223372036854775807) :
    Calls Tryd.prog 52 #[.string s, .string p] w fun e w' => e = .returned (.bool (Lib.hasSuffix s.data.toList p.data.toList)) ∧ w' = w := Any.strings_HasSuffix Tryd.lays100 s p w hs
def Tryd.lays101_ren : Go.Shelf.Ren := ⟨fun | 101 => 49 | 208 => 91 | 206 => 105 | n => n, fun | 9 => 9 | 4 => 4 | 3 => 3 | n => n, fun | n => n⟩
theorem Tryd.lays101 : Go.Proofs.Lays.n101 Tryd.prog Tryd.lays101_ren := {
  mixed := by kernel_rfl
  f101 := Tryd.func49.trans (congrArg some (by kernel_rfl))
  f206 := Tryd.func105.trans (congrArg some (by kernel_rfl))
  f208 := Tryd.func91.trans (congrArg some (by kernel_rfl))
  t3 := Tryd.underlying3
  a3 := Tryd.isAgg3
  z3 := Tryd.sizeOf3
  v3 := Tryd.zeroValue3
  t4 := Tryd.underlying4
  a4 := Tryd.isAgg4
  z4 := Tryd.sizeOf4
  v4 := Tryd.zeroValue4
  t9 := Tryd.underlying9
  a9 := Tryd.isAgg9
  z9 := Tryd.sizeOf9
  v9 := Tryd.zeroValue9 }
open Go.RowKit Go.Lib in
theorem Tryd.strings_TrimPrefix (s p : ByteArray) (w : World) :
    Calls Tryd.prog 49 #[.string s, .string p] w fun e w' => e = .returned (.string ⟨(Lib.trimPrefix s.data.toList p.data.toList).toArray⟩) ∧ w' = w := Any.strings_TrimPrefix Tryd.lays101 s p w
def Tryd.lays146_ren : Go.Shelf.Ren := ⟨fun | 146 => 48 | 221 => 90 | 268 => 137 | 138 => 138 | 143 => 139 | 195 => 168 | 197 => 158 | 218 => 169 | 219 => 170 | 260 => 181 | 217 => 80 | 225 => 191 | 224 => 192 | 267 => 193 | 266 => 129 | 314 => 199 | n => n, fun | 9 => 9 | 31 => 50 | 3 => 3 | 4 => 4 | 0 => 0 | 105 => 187 | 21 => 21 | 5 => 5 | 46 => 116 | 119 => 70 | 139 => 181 | 138 => 180 | 146 => 230 | 51 => 226 | n => n, fun | 1 => 2 | 3 => 0 | 4 => 1 | n => n⟩
theorem Tryd.lays146 : Go.Proofs.Lays.n146 Tryd.prog Tryd.lays146_ren := {
  mixed := by kernel_rfl
  f138 := Tryd.func138.trans (congrArg some (by kernel_rfl))
  f143 := Tryd.func139.trans (congrArg some (by kernel_rfl))
  f146 := Tryd.func48.trans (congrArg some (by kernel_rfl))
  f195 := Tryd.func168.trans (congrArg some (by kernel_rfl))
  f197 := Tryd.func158.trans (congrArg some (by kernel_rfl))
  f217 := Tryd.func80.trans (congrArg some (by kernel_rfl))
  f218 := Tryd.func169.trans (congrArg some (by kernel_rfl))
  f219 := Tryd.func170.trans (congrArg some (by kernel_rfl))
  f221 := Tryd.func90.trans (congrArg some (by kernel_rfl))
  f224 := Tryd.func192.trans (congrArg some (by kernel_rfl))
  f225 := Tryd.func191.trans (congrArg some (by kernel_rfl))
  f260 := Tryd.func181.trans (congrArg some (by kernel_rfl))
  f266 := Tryd.func129.trans (congrArg some (by kernel_rfl))
  f267 := Tryd.func193.trans (congrArg some (by kernel_rfl))
  f268 := Tryd.func137.trans (congrArg some (by kernel_rfl))
  f314 := Tryd.func199.trans (congrArg some (by kernel_rfl))
  t0 := Tryd.underlying0
  a0 := Tryd.isAgg0
  z0 := Tryd.sizeOf0
  v0 := Tryd.zeroValue0
  t3 := Tryd.underlying3
  a3 := Tryd.isAgg3
  z3 := Tryd.sizeOf3
  v3 := Tryd.zeroValue3
  t4 := Tryd.underlying4
  a4 := Tryd.isAgg4
  z4 := Tryd.sizeOf4
  v4 := Tryd.zeroValue4
  t5 := Tryd.underlying5
  a5 := Tryd.isAgg5
  z5 := Tryd.sizeOf5
  v5 := Tryd.zeroValue5
  t9 := Tryd.underlying9
  a9 := Tryd.isAgg9
  z9 := Tryd.sizeOf9
  v9 := Tryd.zeroValue9
  t21 := Tryd.underlying21
  a21 := Tryd.isAgg21
  z21 := Tryd.sizeOf21
  v21 := Tryd.zeroValue21
  t31 := Tryd.underlying50
  a31 := Tryd.isAgg50
  z31 := Tryd.sizeOf50
  v31 := Tryd.zeroValue50
  t46 := Tryd.underlying116
  a46 := Tryd.isAgg116
  z46 := Tryd.sizeOf116
  v46 := Tryd.zeroValue116
  t51 := Tryd.underlying226
  a51 := Tryd.isAgg226
  z51 := Tryd.sizeOf226
  v51 := Tryd.zeroValue226
  t105 := Tryd.underlying187
  a105 := Tryd.isAgg187
  z105 := Tryd.sizeOf187
  v105 := Tryd.zeroValue187
  t119 := Tryd.underlying70
  a119 := Tryd.isAgg70
  z119 := Tryd.sizeOf70
  t138 := Tryd.underlying180
  a138 := Tryd.isAgg180
  z138 := Tryd.sizeOf180
  v138 := Tryd.zeroValue180
  t139 := Tryd.underlying181
  a139 := Tryd.isAgg181
  z139 := Tryd.sizeOf181
  v139 := Tryd.zeroValue181
  t146 := Tryd.underlying230
  a146 := Tryd.isAgg230
  z146 := Tryd.sizeOf230
  v146 := Tryd.zeroValue230
  g1 := by kernel_rfl
  g3 := by kernel_rfl
  g4 := by kernel_rfl }
open Go.RowKit Go.Lib in
theorem Tryd.strings_Split (s sep : ByteArray) (m : Int) (w : World) (hs : s.size < 4294967281) (hm : w.cell? ⟨2, 0, none⟩ = some (.int .i64 m)) (h1 : 1 ≤ sep.size) :
    Calls Tryd.prog 48 #[.string s, .string sep] w fun e w' =>
      e = .returned (.slice (some ⟨w.heap.size, 0, none⟩) (Lib.countB s sep + 1) (Lib.countB s sep + 1)) ∧ w' = w.alloc (.cells ((Lib.splitB sep 0 (Lib.countB s sep) s).map Value.string).toArray 9) := Any.strings_Split Tryd.lays146 (by kernel_rfl) s sep m w hs hm h1
def Tryd.lays227_ren : Go.Shelf.Ren := ⟨fun | 227 => 93 | n => n, fun | 9 => 9 | 116 => 146 | 4 => 4 | 0 => 0 | 3 => 3 | 5 => 5 | n => n, fun | n => n⟩
theorem Tryd.lays227 : Go.Proofs.Lays.n227 Tryd.prog Tryd.lays227_ren := {
  mixed := by kernel_rfl
  f227 := Tryd.func93.trans (congrArg some (by kernel_rfl))
  t0 := Tryd.underlying0
  a0 := Tryd.isAgg0
  z0 := Tryd.sizeOf0
  v0 := Tryd.zeroValue0
  t3 := Tryd.underlying3
  a3 := Tryd.isAgg3
  z3 := Tryd.sizeOf3
  v3 := Tryd.zeroValue3
  t4 := Tryd.underlying4
  a4 := Tryd.isAgg4
  z4 := Tryd.sizeOf4
  v4 := Tryd.zeroValue4
  t5 := Tryd.underlying5
  a5 := Tryd.isAgg5
  z5 := Tryd.sizeOf5
  v5 := Tryd.zeroValue5
  t9 := Tryd.underlying9
  a9 := Tryd.isAgg9
  z9 := Tryd.sizeOf9
  v9 := Tryd.zeroValue9
  t116 := Tryd.underlying146
  a116 := Tryd.isAgg146
  z116 := Tryd.sizeOf146 }
open Go.RowKit Go.Lib in
theorem Tryd.strings_makeASCIISet (hv116 : ∀ w, (zeroValue 146).run Tryd.prog w = .ok (.agg (Array.replicate 256 (.bool false))) w) (chars : ByteArray) (w : World) (hs : chars.size < 4294967281) (hascii : ∀ (j : Nat) b, chars.data.toList[j]? = some b → b.toNat < 128) :
    Calls Tryd.prog 93 #[.string chars] w fun e w' => e = .returned (.tuple #[.agg (Lib.setCells chars.data.toList), .bool true]) ∧ w' = w.alloc (.cells (Lib.setCells chars.data.toList) 146) := Any.strings_makeASCIISet Tryd.lays227 hv116 (by kernel_rfl) chars w hs hascii
end Go.Proofs.YtflmckoolagikaaDoor
end
section
namespace Go.Proofs.YtflmckoolagikaaDoor
open Go Go.RowKit Go.Fw Go.Sx
set_option maxRecDepth 100000
set_option maxHeartbeats 1000000
attribute [local irreducible] SW SL SQ AtQ SV SC BB LD PK Yields SO SOT SOA SY
/-- A number's digits. -/
def numB (n : Nat) : ByteArray := ⟨(Lib.decDigits n).toArray⟩
theorem numB_app (n : Nat) (h : ¬ n < 10) : numB (n / 10) ++ numB (n % 10) = numB n := by
  apply ByteArray.ext
  apply Array.ext'
  show (numB (n / 10) ++ numB (n % 10)).data.toList = Lib.decDigits n
  rw [ByteArray.data_append, Array.toList_append]
  show Lib.decDigits (n / 10) ++ Lib.decDigits (n % 10) = _
  rw [Lib.decDigits_one (show n % 10 < 10 by omega)]
  conv => rhs; rw [Lib.decDigits]
  rw [dif_neg h]
theorem numB_one (n : Nat) (h : n < 10) : (⟨#[48, 49, 50, 51, 52, 53, 54, 55, 56, 57]⟩ : ByteArray).extract (n : Int).toNat ((n : Int) + 1).toNat = numB n := by
  unfold numB
  rw [Lib.decDigits_one h]
  match n, h with
  | 0, _ => rfl
  | 1, _ => rfl
  | 2, _ => rfl
  | 3, _ => rfl
  | 4, _ => rfl
  | 5, _ => rfl
  | 6, _ => rfl
  | 7, _ => rfl
  | 8, _ => rfl
  | 9, _ => rfl
theorem numB_size : ∀ (k n : Nat), n < 10 ^ (k + 1) → (numB n).size ≤ k + 1
  | 0, n, h => by
    have e : (numB n).size = (Lib.decDigits n).length := List.size_toArray
    rw [e, Lib.decDigits_one (by omega)]
    exact Nat.le_refl _
  | k + 1, n, h => by
    by_cases h10 : n < 10
    · have e : (numB n).size = (Lib.decDigits n).length := List.size_toArray
      rw [e, Lib.decDigits_one h10]
      simp
    · rw [← numB_app n h10, ByteArray.size_append]
      have h1 := numB_size k (n / 10) (by rw [Nat.pow_succ] at h; omega)
      have h2 := numB_size 0 (n % 10) (by omega)
      omega
theorem num_sv (G : Ctx) : ∀ (m n : Nat) (H : List Ent), n ≤ m → n ≤ 9223372036854775807 → SV Tryd.prog G 46 [.int .i64 n] H (.string (numB n))
  | m, n, H, hm, hn => by
    by_cases h : n < 10
    · have h1 := numB_one n h
      refine sv_enter1 Tryd.func46 rfl rfl rfl rfl rfl ?_
      have hz : (n : Int) + 1 ≤ ((⟨#[48, 49, 50, 51, 52, 53, 54, 55, 56, 57]⟩ : ByteArray).size : Nat) := by show (n : Int) + 1 ≤ 10; omega
      repeat' (first | (apply g_sl; first | (apply ks_nil; refine sl_nil ?_) | (apply ks_move; refine s_move rfl rfl ?_) | (apply ks_bin; refine s_bin rfl rfl rfl ?_; first | (refine s_slice (h1 ▸ c_sliceStr rfl rfl rfl rfl (by omega) (by omega) hz) rfl ?_) | (first | (apply kb_add; first | refine bb_add ⟨by omega, by omega⟩ ?_ | refine bb_of rfl ?_) | (apply kb_quo; refine bb_quo ⟨by omega, by omega⟩ (by omega) (by omega) ?_) | (apply kb_rem; refine bb_rem (by omega) (by omega) ?_) | refine bb_of rfl ?_)) | (apply ks_asgn; refine s_asgn rfl rfl ?_) | (apply ks_un; refine s_un (y_un rfl rfl rfl) rfl ?_) | (apply ks_fn; first | fail) | (apply ks_slice; first | (refine s_slice (h1 ▸ c_sliceStr rfl rfl rfl rfl (by omega) (by omega) hz) rfl ?_) | refine s_slice (c_sliceStr rfl rfl rfl rfl (by omega) (by omega) (by omega)) rfl ?_) | (refine s_slice (h1 ▸ c_sliceStr rfl rfl rfl rfl (by omega) (by omega) hz) rfl ?_)) | (apply sw_seq) | (apply at_srd) | (apply sw_skip) | (apply sw_ret) | (apply sw_exit) | (apply sw_block) | (apply sw_region) | (refine sw_cd rfl ?_; first | (apply gd_t) | (apply gd_ft) | (apply gd_tf) | (apply gd_dec_t <;> intro hq <;> (try (exfalso; omega))) | (apply gd_dec_f <;> intro hq <;> (try (exfalso; omega))) | (apply gd_beq_t <;> intro hq <;> (try (exfalso; omega))) | (apply gd_beq_f <;> intro hq <;> (try (exfalso; omega))) | (apply gd_bne_t <;> intro hq <;> (try (exfalso; omega))) | (apply gd_bne_f <;> intro hq <;> (try (exfalso; omega))) | (apply gd_not_t <;> intro hq) | (apply gd_not_f <;> intro hq) | (apply gd_raw_t <;> intro hq) | (apply gd_raw_f <;> intro hq)) | (apply at_thn) | (apply at_thn_ret) | (apply at_thn_exit) | (apply at_inb) | (apply at_inb_ret) | (apply at_inb_exit) | refine at_inb_pass rfl ?_ | refine c_drawn (by kernel_rfl) ?_)
      all_goals first | (exfalso; omega) | (refine e_sv (by first | exact .inl rfl | exact .inr rfl) rfl (by repeat (first | exact List.Sublist.refl _ | exact List.nil_sublist _ | refine List.Sublist.cons _ ?_)) ?_; rfl)
    · cases m with
      | zero => omega
      | succ m =>
        have i1 := fun H => num_sv G m (n / 10) H (by omega) (by omega)
        have i2 := fun H => num_sv G m (n % 10) H (by omega) (by omega)
        have e := numB_app n h
        have s1 := numB_size 20 (n / 10) (by omega)
        have s2 := numB_size 20 (n % 10) (by omega)
        have hc : (numB (n / 10)).size + (numB (n % 10)).size ≤ 9223372036854775807 := by omega
        have q1 : ((n / 10 : Nat) : Int) = (n : Int) / 10 := by omega
        have q2 : ((n % 10 : Nat) : Int) = (n : Int) % 10 := by omega
        rw [q1] at i1
        rw [q2] at i2
        clear q1 q2 s1 s2
        generalize numB (n / 10) = A at *
        generalize numB (n % 10) = B at *
        rw [← e]
        clear e
        refine sv_enter1 Tryd.func46 rfl rfl rfl rfl rfl ?_
        repeat' (first | (apply g_sl; first | (apply ks_nil; refine sl_nil ?_) | (apply ks_move; refine s_move rfl rfl ?_) | (apply ks_bin; refine s_bin rfl rfl rfl ?_; first | (refine bb_cat hc ?_) | (first | (apply kb_add; first | refine bb_add ⟨by omega, by omega⟩ ?_ | refine bb_of rfl ?_) | (apply kb_quo; refine bb_quo ⟨by omega, by omega⟩ (by omega) (by omega) ?_) | (apply kb_rem; refine bb_rem (by omega) (by omega) ?_) | refine bb_of rfl ?_)) | (apply ks_asgn; refine s_asgn rfl rfl ?_) | (apply ks_un; refine s_un (y_un rfl rfl rfl) rfl ?_) | (apply ks_fn; first | first | refine c_callv rfl rfl rfl (i1 _) rfl rfl ?_ | refine c_callv rfl rfl rfl (i2 _) rfl rfl ?_) | (apply ks_slice; first | (refine bb_cat hc ?_) | refine s_slice (c_sliceStr rfl rfl rfl rfl (by omega) (by omega) (by omega)) rfl ?_) | (refine bb_cat hc ?_)) | (apply sw_seq) | (apply at_srd) | (apply sw_skip) | (apply sw_ret) | (apply sw_exit) | (apply sw_block) | (apply sw_region) | (refine sw_cd rfl ?_; first | (apply gd_t) | (apply gd_ft) | (apply gd_tf) | (apply gd_dec_t <;> intro hq <;> (try (exfalso; omega))) | (apply gd_dec_f <;> intro hq <;> (try (exfalso; omega))) | (apply gd_beq_t <;> intro hq <;> (try (exfalso; omega))) | (apply gd_beq_f <;> intro hq <;> (try (exfalso; omega))) | (apply gd_bne_t <;> intro hq <;> (try (exfalso; omega))) | (apply gd_bne_f <;> intro hq <;> (try (exfalso; omega))) | (apply gd_not_t <;> intro hq) | (apply gd_not_f <;> intro hq) | (apply gd_raw_t <;> intro hq) | (apply gd_raw_f <;> intro hq)) | (apply at_thn) | (apply at_thn_ret) | (apply at_thn_exit) | (apply at_inb) | (apply at_inb_ret) | (apply at_inb_exit) | refine at_inb_pass rfl ?_ | refine c_drawn (by kernel_rfl) ?_)
        all_goals first | (exfalso; omega) | (refine e_sv (by first | exact .inl rfl | exact .inr rfl) rfl (by repeat (first | exact List.Sublist.refl _ | exact List.nil_sublist _ | refine List.Sublist.cons _ ?_)) ?_; rfl)
theorem refBitA_sv (G : Ctx) (H : List Ent) (p q : Int) : SV Tryd.prog G 45 [.int .i64 p, .int .i64 q] H (.bool (ibits .and .i64 p q != 0)) := by
  refine sv_enter2 Tryd.func45 rfl rfl rfl rfl rfl ?_
  repeat' (first | (apply g_sl; first | (apply ks_nil; refine sl_nil ?_) | (apply ks_move; refine s_move rfl rfl ?_) | (apply ks_bin; refine s_bin rfl rfl rfl ?_; first | (refine bb_bits rfl ?_) | (first | (apply kb_and; first | refine bb_mask rfl rfl (by omega) (by omega) ?_ | refine bb_and (by first | omega | apply iand_nn | apply iclr_nn | apply ior_nn) (by first | omega | (apply iand_l <;> omega) | (apply iclr_l; (apply iand_nn); (apply iand_l <;> omega)) | (apply iclr_l <;> omega) | (apply ior_lt63 <;> omega)) (by first | omega | apply iand_nn | apply iclr_nn | apply ior_nn) (by first | omega | (apply iand_l <;> omega) | (apply iclr_l; (apply iand_nn); (apply iand_l <;> omega)) | (apply iclr_l <;> omega) | (apply ior_lt63 <;> omega)) ?_ | refine bb_bits rfl ?_) | refine bb_of rfl ?_)) | (apply ks_asgn; refine s_asgn rfl rfl ?_) | (refine bb_bits rfl ?_)) | (apply sw_seq) | (apply at_srd) | (apply sw_skip) | (apply sw_ret) | (apply sw_exit) | (apply sw_block) | (apply sw_region) | (refine sw_cd rfl ?_; first | (apply gd_t) | (apply gd_ft) | (apply gd_tf) | (apply gd_dec_t <;> intro hq <;> (try (exfalso; omega))) | (apply gd_dec_f <;> intro hq <;> (try (exfalso; omega))) | (apply gd_beq_t <;> intro hq <;> (try (exfalso; omega))) | (apply gd_beq_f <;> intro hq <;> (try (exfalso; omega))) | (apply gd_bne_t <;> intro hq <;> (try (exfalso; omega))) | (apply gd_bne_f <;> intro hq <;> (try (exfalso; omega))) | (apply gd_not_t <;> intro hq) | (apply gd_not_f <;> intro hq) | (apply gd_raw_t <;> intro hq) | (apply gd_raw_f <;> intro hq)) | (apply at_thn) | (apply at_thn_ret) | (apply at_thn_exit) | (apply at_inb) | (apply at_inb_ret) | (apply at_inb_exit) | refine at_inb_pass rfl ?_ | refine c_drawn (by kernel_rfl) ?_)
  refine e_sv (by first | exact .inl rfl | exact .inr rfl) rfl (by repeat (first | exact List.Sublist.refl _ | exact List.nil_sublist _ | refine List.Sublist.cons _ ?_)) ?_
  rfl
end Go.Proofs.YtflmckoolagikaaDoor
end
section
namespace Go.Fw
def fIdx (p : Int → Bool) (xs : List Int) : Int := if xs.any p then (xs.findIdx p : Nat) else -1
theorem fIdx_at {p : Int → Bool} {xs : List Int} {j : Nat} (hj : j < xs.length) (h : p (xs.getD j 0) = true) (hb : ∀ i, i < j → p (xs.getD i 0) = false) : fIdx p xs = j := by
  have hm : xs.getD j 0 = xs[j] := by rw [List.getD_eq_getElem?_getD, List.getElem?_eq_getElem hj]; rfl
  have ha : xs.any p = true := List.any_eq_true.2 ⟨xs[j], List.getElem_mem hj, by rw [← hm]; exact h⟩
  have hf : xs.findIdx p = j := by
    rw [List.findIdx_eq hj]
    refine ⟨by rw [← hm]; exact h, fun i hi => ?_⟩
    have := hb i hi
    rw [List.getD_eq_getElem?_getD, List.getElem?_eq_getElem (by omega : i < xs.length)] at this
    exact this
  unfold fIdx
  rw [if_pos ha, hf]
theorem any_no {p : Int → Bool} {xs : List Int} (hb : ∀ i, i < xs.length → p (xs.getD i 0) = false) : xs.any p = false := by
  rw [← Bool.not_eq_true, List.any_eq_true]
  rintro ⟨x, hx, h⟩
  obtain ⟨i, hi, rfl⟩ := List.getElem_of_mem hx
  have := hb i hi
  rw [List.getD_eq_getElem?_getD, List.getElem?_eq_getElem hi] at this
  rw [Option.getD_some] at this
  rw [this] at h
  cases h
theorem fIdx_no {p : Int → Bool} {xs : List Int} (hb : ∀ i, i < xs.length → p (xs.getD i 0) = false) : fIdx p xs = -1 := by
  unfold fIdx
  rw [any_no hb]
  rfl
theorem fIdx_ge (p : Int → Bool) (xs : List Int) : decide (0 ≤ fIdx p xs) = xs.any p := by
  unfold fIdx
  cases xs.any p <;> simp
end Go.Fw
namespace Go.Proofs.YtflmckoolagikaaDoor
open Go Go.RowKit Go.Fw Go.Sx
set_option maxRecDepth 100000
set_option maxHeartbeats 1000000
attribute [local irreducible] SW SL SQ AtQ SV SC BB LD PK Yields SO SOT SOA SY
theorem idxInt_sv (G : Ctx) (H : List Ent) (xs : List Int) (y : Int) {vs : List Value} (a : Option Addr) (n c : Nat) [h1 : RdC G H a vs] (hv : vs = ints xs) (hn : n = xs.length) (hm : xs.length ≤ maxLen) : SV Tryd.prog G 89 [.slice a n c, .int .i64 y] H (.int .i64 (fIdx (fun x => decide (y = x)) xs)) := by
  subst hv
  have Hn := Lib.hid hn
  have hbn : n ≤ 9223372036854775807 := by unfold maxLen at hm; omega
  have hix : ∀ k, k < n → (ints xs)[(k : Int).toNat * 1]? = some (.int .i64 (xs.getD k 0)) := fun k hk => ints_at xs k (by rw [← Hn.out]; exact hk)
  have hlx : (ints xs).length = n * 1 := by simp [ints, hn]
  have Hix := Lib.hid hix
  clear hix hn hm
  refine sv_enter2 Tryd.func89 rfl rfl rfl rfl rfl ?_
  repeat' (first | (apply g_sl; first | (apply ks_nil; refine sl_nil ?_) | (apply ks_move; refine s_move rfl rfl ?_) | (apply ks_bin; refine s_bin rfl rfl rfl ?_; first | fail | (first | (apply kb_add; first | refine bb_add ⟨by omega, by omega⟩ ?_ | refine bb_of rfl ?_) | refine bb_of rfl ?_)) | (apply ks_load; first | (refine s_load rfl rfl ?_; first | refine ld_cell rfl ?_ | refine ld_whole rfl ?_ | refine ld_elem rfl ?_ | refine ld_part rfl rfl ?_) | fail) | (apply ks_asgn; refine s_asgn rfl rfl ?_) | (apply ks_indexA; first | refine s_indexA (c_indexAddr rfl rfl rfl rfl (by omega) (by omega)) rfl ?_ | fail) | (apply ks_bi; first | fail | refine s_call (c_len rfl rfl) rfl ?_ | refine s_call (c_len_str rfl rfl) rfl ?_ | refine s_call (c_bi rfl rfl rfl rfl) rfl ?_ | refine c_append rfl rfl rfl rfl (by first | rfl | simp [ints]) (by first | rfl | exact ints_one _ | exact octs_one _ | exact strs_one _) (by omega) rfl rfl (fun _ _ => ?_) | refine c_append_nil rfl rfl rfl rfl (by first | rfl | simp [ints]) (by first | rfl | exact ints_one _ | exact octs_one _ | exact strs_one _) (by omega) rfl rfl (fun _ _ => ?_)) | fail) | (apply sw_seq) | (apply at_srd) | (apply sw_skip) | (apply sw_ret) | (apply sw_exit) | (apply sw_block) | (apply sw_region) | (refine sw_cd rfl ?_; first | (apply gd_t) | (apply gd_ft) | (apply gd_tf) | (apply gd_dec_t <;> intro hq <;> (try (exfalso; omega))) | (apply gd_dec_f <;> intro hq <;> (try (exfalso; omega))) | (apply gd_beq_t <;> intro hq <;> (try (exfalso; omega))) | (apply gd_beq_f <;> intro hq <;> (try (exfalso; omega))) | (apply gd_bne_t <;> intro hq <;> (try (exfalso; omega))) | (apply gd_bne_f <;> intro hq <;> (try (exfalso; omega))) | (apply gd_not_t <;> intro hq) | (apply gd_not_f <;> intro hq) | (apply gd_raw_t <;> intro hq) | (apply gd_raw_f <;> intro hq)) | (apply at_thn) | (apply at_thn_ret) | (apply at_thn_exit) | (apply at_inb) | (apply at_inb_ret) | (apply at_inb_exit) | refine at_inb_pass rfl ?_ | refine c_drawn (by kernel_rfl) ?_)
  refine sw_loopg (α := Nat) (fun j => [(0, .slice a n c), (1, .int .i64 y), (7, .int .i64 n), (8, .int .i64 j)]) (fun _ => H)
    (fun j => j ≤ n ∧ ∀ i, i < j → (fun x => decide (y = x)) (xs.getD i 0) = false) (fun j => n - j) 0 ⟨Nat.zero_le _, fun i hi => absurd hi (Nat.not_lt_zero _)⟩ (by repeat (first | exact Le.nil _ | refine Le.cons (by first | rfl | (exact congrArg some (congrArg (Value.int _) (by omega)))) ?_)) (fun _ hw => hw.subs (by repeat (first | refine Subs.cons (by repeat constructor) ?_ | exact Subs.sub (by repeat (first | exact List.Sublist.refl _ | exact List.nil_sublist _ | refine List.Sublist.cons _ ?_))))) ?_
  rintro j ⟨hj, hs⟩
  have Hs := Lib.hid hs
  clear hs
  by_cases hlt : (j : Int) < n
  · have hxj := Hix.out j (by omega)
    generalize hx : xs.getD j 0 = x at *
    repeat' (first | (apply g_sl; first | (apply ks_nil; refine sl_nil ?_) | (apply ks_move; refine s_move rfl rfl ?_) | (apply ks_bin; refine s_bin rfl rfl rfl ?_; first | first | (refine s_indexA (c_indexAddr rfl rfl rfl hlx (by omega) (by omega)) rfl ?_) | (refine s_load rfl rfl ?_; refine ld_elem hxj ?_) | (first | (apply kb_add; first | refine bb_add ⟨by omega, by omega⟩ ?_ | refine bb_of rfl ?_) | refine bb_of rfl ?_)) | (apply ks_load; first | (refine s_load rfl rfl ?_; first | refine ld_cell rfl ?_ | refine ld_whole rfl ?_ | refine ld_elem rfl ?_ | refine ld_part rfl rfl ?_) | first | (refine s_indexA (c_indexAddr rfl rfl rfl hlx (by omega) (by omega)) rfl ?_) | (refine s_load rfl rfl ?_; refine ld_elem hxj ?_)) | (apply ks_asgn; refine s_asgn rfl rfl ?_) | (apply ks_indexA; first | refine s_indexA (c_indexAddr rfl rfl rfl rfl (by omega) (by omega)) rfl ?_ | first | (refine s_indexA (c_indexAddr rfl rfl rfl hlx (by omega) (by omega)) rfl ?_) | (refine s_load rfl rfl ?_; refine ld_elem hxj ?_)) | (apply ks_bi; first | first | (refine s_indexA (c_indexAddr rfl rfl rfl hlx (by omega) (by omega)) rfl ?_) | (refine s_load rfl rfl ?_; refine ld_elem hxj ?_) | refine s_call (c_len rfl rfl) rfl ?_ | refine s_call (c_len_str rfl rfl) rfl ?_ | refine s_call (c_bi rfl rfl rfl rfl) rfl ?_ | refine c_append rfl rfl rfl rfl (by first | rfl | simp [ints]) (by first | rfl | exact ints_one _ | exact octs_one _ | exact strs_one _) (by omega) rfl rfl (fun _ _ => ?_) | refine c_append_nil rfl rfl rfl rfl (by first | rfl | simp [ints]) (by first | rfl | exact ints_one _ | exact octs_one _ | exact strs_one _) (by omega) rfl rfl (fun _ _ => ?_)) | first | (refine s_indexA (c_indexAddr rfl rfl rfl hlx (by omega) (by omega)) rfl ?_) | (refine s_load rfl rfl ?_; refine ld_elem hxj ?_)) | (apply sw_seq) | (apply at_srd) | (apply sw_skip) | (apply sw_ret) | (apply sw_exit) | (apply sw_block) | (apply sw_region) | (refine sw_cd rfl ?_; first | (apply gd_t) | (apply gd_ft) | (apply gd_tf) | (apply gd_dec_t <;> intro hq <;> (try (exfalso; omega))) | (apply gd_dec_f <;> intro hq <;> (try (exfalso; omega))) | (apply gd_beq_t <;> intro hq <;> (try (exfalso; omega))) | (apply gd_beq_f <;> intro hq <;> (try (exfalso; omega))) | (apply gd_bne_t <;> intro hq <;> (try (exfalso; omega))) | (apply gd_bne_f <;> intro hq <;> (try (exfalso; omega))) | (apply gd_not_t <;> intro hq) | (apply gd_not_f <;> intro hq) | (apply gd_raw_t <;> intro hq) | (apply gd_raw_f <;> intro hq)) | (apply at_thn) | (apply at_thn_ret) | (apply at_thn_exit) | (apply at_inb) | (apply at_inb_ret) | (apply at_inb_exit) | refine at_inb_pass rfl ?_ | refine c_drawn (by kernel_rfl) ?_)
    · refine e_sv (by first | exact .inl rfl | exact .inr rfl) rfl (by repeat (first | exact List.Sublist.refl _ | exact List.nil_sublist _ | refine List.Sublist.cons _ ?_)) ?_
      rw [fIdx_at (j := j) (by rw [← Hn.out]; omega) (by rw [hx]; exact decide_eq_true (by assumption)) Hs.out]
      rfl
    · refine at_meet (j + 1) ⟨⟨by omega, fun i hi => ?_⟩, by omega⟩ (by repeat (first | exact Le.nil _ | refine Le.cons (by first | rfl | (exact congrArg some (congrArg (Value.int _) (by omega)))) ?_)) (fun _ hw => hw.subs (by repeat (first | refine Subs.cons (by repeat constructor) ?_ | exact Subs.sub (by repeat (first | exact List.Sublist.refl _ | exact List.nil_sublist _ | refine List.Sublist.cons _ ?_)))))
      rcases Nat.lt_or_ge i j with h | h
      · exact Hs.out i h
      · obtain rfl : i = j := by omega
        rw [hx]; exact decide_eq_false (by assumption)
  · obtain rfl : j = n := by omega
    repeat' (first | (apply g_sl; first | (apply ks_nil; refine sl_nil ?_) | (apply ks_move; refine s_move rfl rfl ?_) | (apply ks_bin; refine s_bin rfl rfl rfl ?_; first | fail | (first | (apply kb_add; first | refine bb_add ⟨by omega, by omega⟩ ?_ | refine bb_of rfl ?_) | refine bb_of rfl ?_)) | (apply ks_load; first | (refine s_load rfl rfl ?_; first | refine ld_cell rfl ?_ | refine ld_whole rfl ?_ | refine ld_elem rfl ?_ | refine ld_part rfl rfl ?_) | fail) | (apply ks_asgn; refine s_asgn rfl rfl ?_) | (apply ks_indexA; first | refine s_indexA (c_indexAddr rfl rfl rfl rfl (by omega) (by omega)) rfl ?_ | fail) | (apply ks_bi; first | fail | refine s_call (c_len rfl rfl) rfl ?_ | refine s_call (c_len_str rfl rfl) rfl ?_ | refine s_call (c_bi rfl rfl rfl rfl) rfl ?_ | refine c_append rfl rfl rfl rfl (by first | rfl | simp [ints]) (by first | rfl | exact ints_one _ | exact octs_one _ | exact strs_one _) (by omega) rfl rfl (fun _ _ => ?_) | refine c_append_nil rfl rfl rfl rfl (by first | rfl | simp [ints]) (by first | rfl | exact ints_one _ | exact octs_one _ | exact strs_one _) (by omega) rfl rfl (fun _ _ => ?_)) | fail) | (apply sw_seq) | (apply at_srd) | (apply sw_skip) | (apply sw_ret) | (apply sw_exit) | (apply sw_block) | (apply sw_region) | (refine sw_cd rfl ?_; first | (apply gd_t) | (apply gd_ft) | (apply gd_tf) | (apply gd_dec_t <;> intro hq <;> (try (exfalso; omega))) | (apply gd_dec_f <;> intro hq <;> (try (exfalso; omega))) | (apply gd_beq_t <;> intro hq <;> (try (exfalso; omega))) | (apply gd_beq_f <;> intro hq <;> (try (exfalso; omega))) | (apply gd_bne_t <;> intro hq <;> (try (exfalso; omega))) | (apply gd_bne_f <;> intro hq <;> (try (exfalso; omega))) | (apply gd_not_t <;> intro hq) | (apply gd_not_f <;> intro hq) | (apply gd_raw_t <;> intro hq) | (apply gd_raw_f <;> intro hq)) | (apply at_thn) | (apply at_thn_ret) | (apply at_thn_exit) | (apply at_inb) | (apply at_inb_ret) | (apply at_inb_exit) | refine at_inb_pass rfl ?_ | refine c_drawn (by kernel_rfl) ?_)
    refine e_sv (by first | exact .inl rfl | exact .inr rfl) rfl (by repeat (first | exact List.Sublist.refl _ | exact List.nil_sublist _ | refine List.Sublist.cons _ ?_)) ?_
    rw [fIdx_no (by rw [← Hn.out]; exact Hs.out)]
    rfl
theorem hasInt_sv (G : Ctx) (H : List Ent) (xs : List Int) (y : Int) {vs : List Value} (a : Option Addr) (n c : Nat) [h1 : RdC G H a vs] (hv : vs = ints xs) (hn : n = xs.length) (hm : xs.length ≤ maxLen) : SV Tryd.prog G 44 [.slice a n c, .int .i64 y] H (.bool (xs.any fun x => decide (y = x))) := by
  have hc := idxInt_sv G H xs y a n c hv hn hm
  rw [← fIdx_ge]
  generalize fIdx (fun x => decide (y = x)) xs = r at *
  refine sv_enter2 Tryd.func44 rfl rfl rfl rfl rfl ?_
  repeat' (first | (apply g_sl; first | (apply ks_nil; refine sl_nil ?_) | (apply ks_move; refine s_move rfl rfl ?_) | (apply ks_bin; refine s_bin rfl rfl rfl ?_; first | fail | (first | refine bb_of rfl ?_)) | (apply ks_asgn; refine s_asgn rfl rfl ?_) | (apply ks_fn; first | refine c_callv rfl rfl rfl (hc) rfl rfl ?_) | fail) | (apply sw_seq) | (apply at_srd) | (apply sw_skip) | (apply sw_ret) | (apply sw_exit) | (apply sw_block) | (apply sw_region) | (refine sw_cd rfl ?_; first | (apply gd_t) | (apply gd_ft) | (apply gd_tf) | (apply gd_dec_t <;> intro hq <;> (try (exfalso; omega))) | (apply gd_dec_f <;> intro hq <;> (try (exfalso; omega))) | (apply gd_beq_t <;> intro hq <;> (try (exfalso; omega))) | (apply gd_beq_f <;> intro hq <;> (try (exfalso; omega))) | (apply gd_bne_t <;> intro hq <;> (try (exfalso; omega))) | (apply gd_bne_f <;> intro hq <;> (try (exfalso; omega))) | (apply gd_not_t <;> intro hq) | (apply gd_not_f <;> intro hq) | (apply gd_raw_t <;> intro hq) | (apply gd_raw_f <;> intro hq)) | (apply at_thn) | (apply at_thn_ret) | (apply at_thn_exit) | (apply at_inb) | (apply at_inb_ret) | (apply at_inb_exit) | refine at_inb_pass rfl ?_ | refine c_drawn (by kernel_rfl) ?_)
  refine e_sv (by first | exact .inl rfl | exact .inr rfl) rfl (by repeat (first | exact List.Sublist.refl _ | exact List.nil_sublist _ | refine List.Sublist.cons _ ?_)) ?_
  first | exact rb_t (by omega) | exact rb_f (by omega) | exact rb_d (by omega) | exact rb_n (by omega)
end Go.Proofs.YtflmckoolagikaaDoor
end
section
namespace Go.Fw
open Go Go.Lib
theorem index_split (c : UInt8) : ∀ (a b : List UInt8), ¬ c ∈ a → index (a ++ c :: b) [c] = ((a.length : Nat) : Int)
  | [], b, _ => by
    show index (c :: b) [c] = 0
    unfold index
    simp
  | x :: a, b, h => by
    have h1 : ¬ c = x := fun e => h (by rw [e]; exact List.mem_cons_self)
    have ih := index_split c a b fun e => h (List.mem_cons_of_mem _ e)
    show index (x :: (a ++ c :: b)) [c] = _
    unfold index
    have hp : ([c].isPrefixOf (x :: (a ++ c :: b))) = false := by simp only [List.isPrefixOf, Bool.and_true]; exact beq_eq_false_iff_ne.2 h1
    rw [hp, ih]
    simp
theorem index_not (c : UInt8) : ∀ (l : List UInt8), ¬ c ∈ l → index l [c] = -1
  | [], _ => rfl
  | x :: l, h => by
    have h1 : ¬ c = x := fun e => h (by rw [e]; exact List.mem_cons_self)
    have ih := index_not c l fun e => h (List.mem_cons_of_mem _ e)
    unfold index
    have hp : ([c].isPrefixOf (x :: l)) = false := by simp only [List.isPrefixOf, Bool.and_true]; exact beq_eq_false_iff_ne.2 h1
    rw [hp, ih]
    rfl
end Go.Fw
end
section
namespace Go.Proofs.YtflmckoolagikaaDoor
open Go Go.RowKit Go.Fw Go.Sx
/-- The words between marks. -/
def wordsA (c : UInt8) (acc : List UInt8) : List UInt8 → List (List UInt8)
  | [] => [acc]
  | b :: l => if b = c then acc :: wordsA c [] l else wordsA c (acc ++ [b]) l
theorem wordsA_no (c : UInt8) : ∀ (l acc : List UInt8), ¬ c ∈ l → wordsA c acc l = [acc ++ l]
  | [], acc, _ => by simp [wordsA]
  | b :: l, acc, h => by
    have hb : ¬ b = c := fun e => h (e ▸ List.mem_cons_self)
    rw [wordsA, if_neg hb, wordsA_no c l _ (fun x => h (List.mem_cons_of_mem _ x)), List.append_assoc]; rfl
theorem wordsA_split (c : UInt8) : ∀ (a b acc : List UInt8), ¬ c ∈ a → wordsA c acc (a ++ c :: b) = (acc ++ a) :: wordsA c [] b
  | [], b, acc, _ => by rw [List.nil_append, wordsA, if_pos rfl, List.append_nil]
  | x :: a, b, acc, h => by
    have hb : ¬ x = c := fun e => h (e ▸ List.mem_cons_self)
    rw [List.cons_append, wordsA, if_neg hb, wordsA_split c a b _ (fun y => h (List.mem_cons_of_mem _ y)), List.append_assoc]; rfl
theorem split_words (c : UInt8) : ∀ (k : Nat) (l : List UInt8), Lib.count l [c] = k → Lib.splitK [c] 0 k l = wordsA c [] l := by
  intro k
  induction k with
  | zero =>
    intro l h
    have hn : ¬ c ∈ l := fun hm => by
      obtain ⟨a, b, rfl, ha⟩ := List.eq_append_cons_of_mem hm
      have := Lib.count_hit (by simp) (index_split c a b ha)
      omega
    rw [Lib.splitK, wordsA_no c l [] hn]; rfl
  | succ k ih =>
    intro l h
    by_cases hm : c ∈ l
    · obtain ⟨a, b, rfl, ha⟩ := List.eq_append_cons_of_mem hm
      have hi := index_split c a b ha
      have hc := Lib.count_hit (by simp) hi
      have e1 : (a ++ c :: b).drop (a.length + 1) = b := by rw [List.drop_length_add_append]; rfl
      have hlc : [c].length = 1 := rfl
      rw [hlc, e1] at hc
      rw [Lib.splitK, hi, if_neg (by simp), hlc, Nat.add_zero, Int.toNat_natCast, e1, List.take_left, ih b (by omega), wordsA_split c a b [] ha, List.nil_append]
    · have h2 := Lib.count_miss (index_not c l hm)
      omega
theorem words_len (c : UInt8) : ∀ (l acc w : List UInt8), w ∈ wordsA c acc l → w.length ≤ acc.length + l.length
  | [], acc, w, h => by simp only [wordsA, List.mem_singleton] at h; subst h; exact Nat.le_refl _
  | b :: l, acc, w, h => by
    unfold wordsA at h
    split at h
    · rcases List.mem_cons.1 h with rfl | h
      · omega
      · have := words_len c l [] w h; simp at this ⊢; omega
    · have := words_len c l _ w h; simp at this ⊢; omega
def baL (l : List UInt8) : ByteArray := ⟨l.toArray⟩
theorem baL_data (d : ByteArray) : baL d.data.toList = d := by cases d; rfl
def wordsB (c : UInt8) (d : ByteArray) : List ByteArray := (wordsA c [] d.data.toList).map baL
theorem splitB_words (c : UInt8) (d : ByteArray) : Lib.splitB ⟨#[c]⟩ 0 (Lib.countB d ⟨#[c]⟩) d = wordsB c d := by
  have h := Lib.splitB_data ⟨#[c]⟩ 0 (Lib.countB d ⟨#[c]⟩) d
  have h2 := split_words c (Lib.countB d ⟨#[c]⟩) d.data.toList rfl
  unfold wordsB
  rw [← h2, show [c] = (⟨#[c]⟩ : ByteArray).data.toList from rfl, ← h, List.map_map]
  conv => lhs; rw [← List.map_id (Lib.splitB ⟨#[c]⟩ 0 (Lib.countB d ⟨#[c]⟩) d)]
  exact List.map_congr_left fun x _ => (baL_data x).symm
theorem countB_words (c : UInt8) (d : ByteArray) : Lib.countB d ⟨#[c]⟩ + 1 = (wordsB c d).length := by
  rw [← splitB_words, Lib.splitB_all ⟨#[c]⟩ (Nat.le_refl 1) 0 _ d rfl]
theorem wordsB_len {c : UInt8} {d w : ByteArray} (h : w ∈ wordsB c d) : w.size ≤ d.size := by
  obtain ⟨x, hx, rfl⟩ := List.mem_map.1 h
  have := words_len c d.data.toList [] x hx
  have e : (baL x).size = x.length := List.size_toArray
  have e2 : d.data.toList.length = d.size := rfl
  simp at this
  omega
end Go.Proofs.YtflmckoolagikaaDoor
end
section
namespace Go.Sx
open Go Go.RowKit Go.Fw
/-- Is a byte in a set? -/
def inS (cut : ByteArray) (x : Int) : Bool := cut.data.toList.contains (UInt8.ofNat x.toNat)
def setC (cut : ByteArray) : List Value := (Lib.setCells cut.data.toList).toList
theorem setC_at (cut : ByteArray) (x : Int) (h : 0 ≤ x ∧ x ≤ 255) : (setC cut)[x.toNat]? = some (.bool (inS cut x)) := by
  unfold setC inS
  have h1 := Lib.setCells_at cut.data.toList (UInt8.ofNat x.toNat)
  have h2 : (UInt8.ofNat x.toNat).toNat = x.toNat := by simp; omega
  rw [h2] at h1
  rw [Array.getElem?_toList]
  exact h1
theorem setC_len (cut : ByteArray) : (setC cut).length = 256 := by unfold setC; rw [Array.length_toList, Lib.setCells_size]
def trN (p : Int → Bool) (l : List Int) : List Int := (l.reverse.dropWhile p).reverse
attribute [irreducible] setC
end Go.Sx
namespace Go.Proofs.YtflmckoolagikaaDoor
open Go Go.RowKit Go.Fw Go.Sx
set_option maxRecDepth 100000
set_option maxHeartbeats 1000000
attribute [local irreducible] SW SL SQ AtQ SV SC BB LD PK Yields SO SOT SOA SY
theorem setHas_sv (G : Ctx) (H : List Ent) (b : Nat) {t : TypeId} (cut : ByteArray) [hb : HasBlk H b t (setC cut)] (x : Int) (hx : 0 ≤ x ∧ x ≤ 255) : SV Tryd.prog G 140 [.pointer (some ⟨b, 0, none⟩), .int .u8 x] H (.bool (inS cut x)) := by
  have hv := setC_at cut x hx
  have hv : (setC cut)[0 + x.toNat * 1]? = some (.bool (inS cut x)) := by rw [show 0 + x.toNat * 1 = x.toNat from by omega]; exact hv
  refine sv_enter2 Tryd.func140 rfl rfl rfl rfl rfl ?_
  repeat' (first | (apply g_sl; first | (apply ks_nil; refine sl_nil ?_) | (apply ks_move; refine s_move rfl rfl ?_) | (apply ks_load; first | (refine s_load rfl rfl ?_; first | refine ld_cell rfl ?_ | refine ld_whole rfl ?_ | refine ld_elem rfl ?_ | refine ld_part rfl rfl ?_) | first | (refine s_indexA (c_indexP rfl rfl rfl (by omega) (by omega)) rfl ?_) | (refine s_load rfl rfl ?_; refine ld_cell hv ?_)) | (apply ks_asgn; refine s_asgn rfl rfl ?_) | (apply ks_indexA; first | refine s_indexA (c_indexAddr rfl rfl rfl rfl (by omega) (by omega)) rfl ?_ | first | (refine s_indexA (c_indexP rfl rfl rfl (by omega) (by omega)) rfl ?_) | (refine s_load rfl rfl ?_; refine ld_cell hv ?_)) | (apply ks_nilc; refine s_nilc (y_nilCheck rfl rfl) rfl ?_) | first | (refine s_indexA (c_indexP rfl rfl rfl (by omega) (by omega)) rfl ?_) | (refine s_load rfl rfl ?_; refine ld_cell hv ?_)) | (apply sw_seq) | (apply at_srd) | (apply sw_skip) | (apply sw_ret) | (apply sw_exit) | (apply sw_block) | (apply sw_region) | (refine sw_cd rfl ?_; first | (apply gd_t) | (apply gd_ft) | (apply gd_tf) | (apply gd_dec_t <;> intro hq <;> (try (exfalso; omega))) | (apply gd_dec_f <;> intro hq <;> (try (exfalso; omega))) | (apply gd_beq_t <;> intro hq <;> (try (exfalso; omega))) | (apply gd_beq_f <;> intro hq <;> (try (exfalso; omega))) | (apply gd_bne_t <;> intro hq <;> (try (exfalso; omega))) | (apply gd_bne_f <;> intro hq <;> (try (exfalso; omega))) | (apply gd_not_t <;> intro hq) | (apply gd_not_f <;> intro hq) | (apply gd_raw_t <;> intro hq) | (apply gd_raw_f <;> intro hq)) | (apply at_thn) | (apply at_thn_ret) | (apply at_thn_exit) | (apply at_inb) | (apply at_inb_ret) | (apply at_inb_exit) | refine at_inb_pass rfl ?_ | refine c_drawn (by kernel_rfl) ?_)
  refine e_sv (by first | exact .inl rfl | exact .inr rfl) rfl (by repeat (first | exact List.Sublist.refl _ | exact List.nil_sublist _ | refine List.Sublist.cons _ ?_)) ?_
  rfl
theorem trimR_sv (G : Ctx) (H : List Ent) (b : Nat) {t : TypeId} (cut : ByteArray) [hb : HasBlk H b t (setC cut)] (L : List Int) (ho : ∀ x ∈ L, 0 ≤ x ∧ x ≤ 255) (hz : L.length ≤ 4000000) : SV Tryd.prog G 94 [.string (strOfNums L), .pointer (some ⟨b, 0, none⟩)] H (.string (strOfNums (trN (inS cut) L))) := by
  have cH := fun x hx => setHas_sv G H b cut x hx
  refine sv_enter2 Tryd.func94 rfl rfl rfl rfl rfl ?_
  repeat' (first | (apply g_sl; first | (apply ks_nil; refine sl_nil ?_) | (apply ks_move; refine s_move rfl rfl ?_) | (apply ks_bin; refine s_bin rfl rfl rfl ?_; first | fail | (first | (apply kb_sub; first | refine bb_sub ⟨by omega, by omega⟩ ?_ | refine bb_of rfl ?_) | refine bb_of rfl ?_)) | (apply ks_asgn; refine s_asgn rfl rfl ?_) | (apply ks_un; refine s_un (y_un rfl rfl rfl) rfl ?_) | (apply ks_index; first | fail | refine s_index (c_indexArr rfl rfl rfl (by omega) (by omega) rfl) rfl ?_ | refine s_index (c_indexArrA rfl rfl rfl (by omega) (by omega) rfl) rfl ?_ | refine s_index (c_indexStr rfl rfl rfl (by omega) rfl) rfl ?_) | (apply ks_fn; first | fail) | (apply ks_bi; first | fail | refine s_call (c_len rfl rfl) rfl ?_ | refine s_call (c_len_str rfl rfl) rfl ?_ | refine s_call (c_bi rfl rfl rfl rfl) rfl ?_ | refine c_append rfl rfl rfl rfl (by first | rfl | simp [ints]) (by first | rfl | exact ints_one _ | exact octs_one _ | exact strs_one _) (by omega) rfl rfl (fun _ _ => ?_) | refine c_append_nil rfl rfl rfl rfl (by first | rfl | simp [ints]) (by first | rfl | exact ints_one _ | exact octs_one _ | exact strs_one _) (by omega) rfl rfl (fun _ _ => ?_)) | (apply ks_slice; first | fail | refine s_slice (c_sliceStr rfl rfl rfl rfl (by omega) (by omega) (by omega)) rfl ?_) | fail) | (apply sw_seq) | (apply at_srd) | (apply sw_skip) | (apply sw_ret) | (apply sw_exit) | (apply sw_block) | (apply sw_region) | (refine sw_cd rfl ?_; first | (apply gd_t) | (apply gd_ft) | (apply gd_tf) | (apply gd_dec_t <;> intro hq <;> (try (exfalso; omega))) | (apply gd_dec_f <;> intro hq <;> (try (exfalso; omega))) | (apply gd_beq_t <;> intro hq <;> (try (exfalso; omega))) | (apply gd_beq_f <;> intro hq <;> (try (exfalso; omega))) | (apply gd_bne_t <;> intro hq <;> (try (exfalso; omega))) | (apply gd_bne_f <;> intro hq <;> (try (exfalso; omega))) | (apply gd_not_t <;> intro hq) | (apply gd_not_f <;> intro hq) | (apply gd_raw_t <;> intro hq) | (apply gd_raw_f <;> intro hq)) | (apply at_thn) | (apply at_thn_ret) | (apply at_thn_exit) | (apply at_inb) | (apply at_inb_ret) | (apply at_inb_exit) | refine at_inb_pass rfl ?_ | refine c_drawn (by kernel_rfl) ?_)
  refine sw_loopg (α := List Int) (fun l => [(0, .string (strOfNums l.reverse)), (1, .pointer (some ⟨b, 0, none⟩))]) (fun _ => H)
    (fun l => trN (inS cut) l.reverse = trN (inS cut) L ∧ l.length ≤ 4000000 ∧ ∀ x ∈ l, 0 ≤ x ∧ x ≤ 255) (fun l => l.length) L.reverse ⟨by rw [List.reverse_reverse], by rw [List.length_reverse]; exact hz, fun x hx => ho x (List.mem_reverse.1 hx)⟩ (by simp only [List.reverse_reverse]; exact (by repeat (first | exact Le.nil _ | refine Le.cons (by first | rfl | (exact congrArg some (congrArg (Value.int _) (by omega)))) ?_))) (fun _ hw => hw.subs (by repeat (first | refine Subs.cons (by repeat constructor) ?_ | exact Subs.sub (by repeat (first | exact List.Sublist.refl _ | exact List.nil_sublist _ | refine List.Sublist.cons _ ?_))))) ?_
  rintro l ⟨hl, hlz, hlo⟩
  have hsz : (strOfNums l.reverse).size = l.length := by rw [strOfNums_size, List.length_reverse]
  cases l with
  | nil =>
    simp only [List.length_nil] at hsz
    repeat' (first | (apply g_sl; first | (apply ks_nil; refine sl_nil ?_) | (apply ks_move; refine s_move rfl rfl ?_) | (apply ks_bin; refine s_bin rfl rfl rfl ?_; first | fail | (first | (apply kb_sub; first | refine bb_sub ⟨by omega, by omega⟩ ?_ | refine bb_of rfl ?_) | refine bb_of rfl ?_)) | (apply ks_asgn; refine s_asgn rfl rfl ?_) | (apply ks_un; refine s_un (y_un rfl rfl rfl) rfl ?_) | (apply ks_index; first | fail | refine s_index (c_indexArr rfl rfl rfl (by omega) (by omega) rfl) rfl ?_ | refine s_index (c_indexArrA rfl rfl rfl (by omega) (by omega) rfl) rfl ?_ | refine s_index (c_indexStr rfl rfl rfl (by omega) rfl) rfl ?_) | (apply ks_fn; first | fail) | (apply ks_bi; first | fail | refine s_call (c_len rfl rfl) rfl ?_ | refine s_call (c_len_str rfl rfl) rfl ?_ | refine s_call (c_bi rfl rfl rfl rfl) rfl ?_ | refine c_append rfl rfl rfl rfl (by first | rfl | simp [ints]) (by first | rfl | exact ints_one _ | exact octs_one _ | exact strs_one _) (by omega) rfl rfl (fun _ _ => ?_) | refine c_append_nil rfl rfl rfl rfl (by first | rfl | simp [ints]) (by first | rfl | exact ints_one _ | exact octs_one _ | exact strs_one _) (by omega) rfl rfl (fun _ _ => ?_)) | (apply ks_slice; first | fail | refine s_slice (c_sliceStr rfl rfl rfl rfl (by omega) (by omega) (by omega)) rfl ?_) | fail) | (apply sw_seq) | (apply at_srd) | (apply sw_skip) | (apply sw_ret) | (apply sw_exit) | (apply sw_block) | (apply sw_region) | (refine sw_cd rfl ?_; first | (apply gd_t) | (apply gd_ft) | (apply gd_tf) | (apply gd_dec_t <;> intro hq <;> (try (exfalso; omega))) | (apply gd_dec_f <;> intro hq <;> (try (exfalso; omega))) | (apply gd_beq_t <;> intro hq <;> (try (exfalso; omega))) | (apply gd_beq_f <;> intro hq <;> (try (exfalso; omega))) | (apply gd_bne_t <;> intro hq <;> (try (exfalso; omega))) | (apply gd_bne_f <;> intro hq <;> (try (exfalso; omega))) | (apply gd_not_t <;> intro hq) | (apply gd_not_f <;> intro hq) | (apply gd_raw_t <;> intro hq) | (apply gd_raw_f <;> intro hq)) | (apply at_thn) | (apply at_thn_ret) | (apply at_thn_exit) | (apply at_inb) | (apply at_inb_ret) | (apply at_inb_exit) | refine at_inb_pass rfl ?_ | refine c_drawn (by kernel_rfl) ?_)
    all_goals first | (exfalso; omega) | skip
    refine e_sv (by first | exact .inl rfl | exact .inr rfl) rfl (by repeat (first | exact List.Sublist.refl _ | exact List.nil_sublist _ | refine List.Sublist.cons _ ?_)) ?_
    rw [← hl]
    rfl
  | cons x r =>
    simp only [List.length_cons] at hsz hlz
    have hn : nums (strOfNums (x :: r).reverse) = (x :: r).reverse := nums_strOf (fun y hy => hlo y (List.mem_reverse.1 hy))
    have hv : (nums (strOfNums (x :: r).reverse)).getD ((((strOfNums (x :: r).reverse).size : Nat) : Int) - 1).toNat 0 = x := by
      rw [hn, hsz, show (((r.length + 1 : Nat) : Int) - 1).toNat = r.length from by omega, List.reverse_cons, List.getD_eq_getElem?_getD, List.getElem?_append_right (by rw [List.length_reverse]; exact Nat.le_refl _), List.length_reverse, Nat.sub_self]
      rfl
    have hx := hlo x List.mem_cons_self
    have hsl : (strOfNums (x :: r).reverse).extract (0 : Int).toNat ((((strOfNums (x :: r).reverse).size : Nat) : Int) - 1).toNat = strOfNums r.reverse := nums_inj (by
      rw [nums_extract, hn, nums_strOf (fun y hy => hlo y (List.mem_cons_of_mem _ (List.mem_reverse.1 hy))), hsz, show (((r.length + 1 : Nat) : Int) - 1).toNat - (0 : Int).toNat = r.length from by omega, List.reverse_cons]
      show List.take r.length (r.reverse ++ [x]) = _
      exact List.take_left' (List.length_reverse))
    have c1 := cH x hx
    have Hl := Lib.hid hl
    have Hlo := Lib.hid hlo
    clear hl hlo cH hn
    generalize hS : strOfNums (x :: r).reverse = S at *
    cases hp : inS cut x with
    | true =>
      rw [hp] at c1
      repeat' (first | (apply g_sl; first | (apply ks_nil; refine sl_nil ?_) | (apply ks_move; refine s_move rfl rfl ?_) | (apply ks_bin; refine s_bin rfl rfl rfl ?_; first | first | (refine s_index (c_indexNumV hv rfl rfl rfl (by omega) (by omega)) rfl ?_) | (refine s_slice (c_sliceStrV hsl rfl rfl rfl rfl (by omega) (by omega) (by omega)) rfl ?_) | (first | (apply kb_sub; first | refine bb_sub ⟨by omega, by omega⟩ ?_ | refine bb_of rfl ?_) | refine bb_of rfl ?_)) | (apply ks_asgn; refine s_asgn rfl rfl ?_) | (apply ks_un; refine s_un (y_un rfl rfl rfl) rfl ?_) | (apply ks_index; first | first | (refine s_index (c_indexNumV hv rfl rfl rfl (by omega) (by omega)) rfl ?_) | (refine s_slice (c_sliceStrV hsl rfl rfl rfl rfl (by omega) (by omega) (by omega)) rfl ?_) | refine s_index (c_indexArr rfl rfl rfl (by omega) (by omega) rfl) rfl ?_ | refine s_index (c_indexArrA rfl rfl rfl (by omega) (by omega) rfl) rfl ?_ | refine s_index (c_indexStr rfl rfl rfl (by omega) rfl) rfl ?_) | (apply ks_fn; first | refine c_callv rfl rfl rfl (c1) rfl rfl ?_) | (apply ks_bi; first | first | (refine s_index (c_indexNumV hv rfl rfl rfl (by omega) (by omega)) rfl ?_) | (refine s_slice (c_sliceStrV hsl rfl rfl rfl rfl (by omega) (by omega) (by omega)) rfl ?_) | refine s_call (c_len rfl rfl) rfl ?_ | refine s_call (c_len_str rfl rfl) rfl ?_ | refine s_call (c_bi rfl rfl rfl rfl) rfl ?_ | refine c_append rfl rfl rfl rfl (by first | rfl | simp [ints]) (by first | rfl | exact ints_one _ | exact octs_one _ | exact strs_one _) (by omega) rfl rfl (fun _ _ => ?_) | refine c_append_nil rfl rfl rfl rfl (by first | rfl | simp [ints]) (by first | rfl | exact ints_one _ | exact octs_one _ | exact strs_one _) (by omega) rfl rfl (fun _ _ => ?_)) | (apply ks_slice; first | first | (refine s_index (c_indexNumV hv rfl rfl rfl (by omega) (by omega)) rfl ?_) | (refine s_slice (c_sliceStrV hsl rfl rfl rfl rfl (by omega) (by omega) (by omega)) rfl ?_) | refine s_slice (c_sliceStr rfl rfl rfl rfl (by omega) (by omega) (by omega)) rfl ?_) | first | (refine s_index (c_indexNumV hv rfl rfl rfl (by omega) (by omega)) rfl ?_) | (refine s_slice (c_sliceStrV hsl rfl rfl rfl rfl (by omega) (by omega) (by omega)) rfl ?_)) | (apply sw_seq) | (apply at_srd) | (apply sw_skip) | (apply sw_ret) | (apply sw_exit) | (apply sw_block) | (apply sw_region) | (refine sw_cd rfl ?_; first | (apply gd_t) | (apply gd_ft) | (apply gd_tf) | (apply gd_dec_t <;> intro hq <;> (try (exfalso; omega))) | (apply gd_dec_f <;> intro hq <;> (try (exfalso; omega))) | (apply gd_beq_t <;> intro hq <;> (try (exfalso; omega))) | (apply gd_beq_f <;> intro hq <;> (try (exfalso; omega))) | (apply gd_bne_t <;> intro hq <;> (try (exfalso; omega))) | (apply gd_bne_f <;> intro hq <;> (try (exfalso; omega))) | (apply gd_not_t <;> intro hq) | (apply gd_not_f <;> intro hq) | (apply gd_raw_t <;> intro hq) | (apply gd_raw_f <;> intro hq)) | (apply at_thn) | (apply at_thn_ret) | (apply at_thn_exit) | (apply at_inb) | (apply at_inb_ret) | (apply at_inb_exit) | refine at_inb_pass rfl ?_ | refine c_drawn (by kernel_rfl) ?_)
      all_goals first | (exfalso; omega) | skip
      refine at_meet r ⟨⟨?_, by omega, fun y hy => Hlo.out y (List.mem_cons_of_mem _ hy)⟩, by simp⟩ (by repeat (first | exact Le.nil _ | refine Le.cons (by first | rfl | (exact congrArg some (congrArg (Value.int _) (by omega)))) ?_)) (fun _ hw => hw.subs (by repeat (first | refine Subs.cons (by repeat constructor) ?_ | exact Subs.sub (by repeat (first | exact List.Sublist.refl _ | exact List.nil_sublist _ | refine List.Sublist.cons _ ?_)))))
      rw [← Hl.out]
      unfold trN
      rw [List.reverse_reverse, List.reverse_reverse, List.dropWhile_cons, hp]
      rfl
    | false =>
      rw [hp] at c1
      repeat' (first | (apply g_sl; first | (apply ks_nil; refine sl_nil ?_) | (apply ks_move; refine s_move rfl rfl ?_) | (apply ks_bin; refine s_bin rfl rfl rfl ?_; first | first | (refine s_index (c_indexNumV hv rfl rfl rfl (by omega) (by omega)) rfl ?_) | (refine s_slice (c_sliceStrV hsl rfl rfl rfl rfl (by omega) (by omega) (by omega)) rfl ?_) | (first | (apply kb_sub; first | refine bb_sub ⟨by omega, by omega⟩ ?_ | refine bb_of rfl ?_) | refine bb_of rfl ?_)) | (apply ks_asgn; refine s_asgn rfl rfl ?_) | (apply ks_un; refine s_un (y_un rfl rfl rfl) rfl ?_) | (apply ks_index; first | first | (refine s_index (c_indexNumV hv rfl rfl rfl (by omega) (by omega)) rfl ?_) | (refine s_slice (c_sliceStrV hsl rfl rfl rfl rfl (by omega) (by omega) (by omega)) rfl ?_) | refine s_index (c_indexArr rfl rfl rfl (by omega) (by omega) rfl) rfl ?_ | refine s_index (c_indexArrA rfl rfl rfl (by omega) (by omega) rfl) rfl ?_ | refine s_index (c_indexStr rfl rfl rfl (by omega) rfl) rfl ?_) | (apply ks_fn; first | refine c_callv rfl rfl rfl (c1) rfl rfl ?_) | (apply ks_bi; first | first | (refine s_index (c_indexNumV hv rfl rfl rfl (by omega) (by omega)) rfl ?_) | (refine s_slice (c_sliceStrV hsl rfl rfl rfl rfl (by omega) (by omega) (by omega)) rfl ?_) | refine s_call (c_len rfl rfl) rfl ?_ | refine s_call (c_len_str rfl rfl) rfl ?_ | refine s_call (c_bi rfl rfl rfl rfl) rfl ?_ | refine c_append rfl rfl rfl rfl (by first | rfl | simp [ints]) (by first | rfl | exact ints_one _ | exact octs_one _ | exact strs_one _) (by omega) rfl rfl (fun _ _ => ?_) | refine c_append_nil rfl rfl rfl rfl (by first | rfl | simp [ints]) (by first | rfl | exact ints_one _ | exact octs_one _ | exact strs_one _) (by omega) rfl rfl (fun _ _ => ?_)) | (apply ks_slice; first | first | (refine s_index (c_indexNumV hv rfl rfl rfl (by omega) (by omega)) rfl ?_) | (refine s_slice (c_sliceStrV hsl rfl rfl rfl rfl (by omega) (by omega) (by omega)) rfl ?_) | refine s_slice (c_sliceStr rfl rfl rfl rfl (by omega) (by omega) (by omega)) rfl ?_) | first | (refine s_index (c_indexNumV hv rfl rfl rfl (by omega) (by omega)) rfl ?_) | (refine s_slice (c_sliceStrV hsl rfl rfl rfl rfl (by omega) (by omega) (by omega)) rfl ?_)) | (apply sw_seq) | (apply at_srd) | (apply sw_skip) | (apply sw_ret) | (apply sw_exit) | (apply sw_block) | (apply sw_region) | (refine sw_cd rfl ?_; first | (apply gd_t) | (apply gd_ft) | (apply gd_tf) | (apply gd_dec_t <;> intro hq <;> (try (exfalso; omega))) | (apply gd_dec_f <;> intro hq <;> (try (exfalso; omega))) | (apply gd_beq_t <;> intro hq <;> (try (exfalso; omega))) | (apply gd_beq_f <;> intro hq <;> (try (exfalso; omega))) | (apply gd_bne_t <;> intro hq <;> (try (exfalso; omega))) | (apply gd_bne_f <;> intro hq <;> (try (exfalso; omega))) | (apply gd_not_t <;> intro hq) | (apply gd_not_f <;> intro hq) | (apply gd_raw_t <;> intro hq) | (apply gd_raw_f <;> intro hq)) | (apply at_thn) | (apply at_thn_ret) | (apply at_thn_exit) | (apply at_inb) | (apply at_inb_ret) | (apply at_inb_exit) | refine at_inb_pass rfl ?_ | refine c_drawn (by kernel_rfl) ?_)
      all_goals first | (exfalso; omega) | skip
      refine e_sv (by first | exact .inl rfl | exact .inr rfl) rfl (by repeat (first | exact List.Sublist.refl _ | exact List.nil_sublist _ | refine List.Sublist.cons _ ?_)) ?_
      rw [← Hl.out]
      unfold trN
      rw [List.reverse_reverse, List.dropWhile_cons, hp, ← hS]
      rfl
theorem mkSet_sv (G : Ctx) (H : List Ent) (cut : ByteArray) (hz : cut.size ≤ 1000) (ha : ∀ (j : Nat) b, cut.data.toList[j]? = some b → b.toNat < 128) : SV Tryd.prog G 93 [.string cut] H (.tuple #[.agg (setC cut).toArray, .bool true]) := by
  refine sv_of_calls (callee_of Tryd.func93 rfl rfl) fun w hw => ?_
  have h := Tryd.strings_makeASCIISet (fun w => still_run _ _ (by kernel_rfl) w) cut w (by omega) ha
  have e : (setC cut).toArray = Lib.setCells cut.data.toList := by unfold setC; exact Array.toArray_toList
  rw [e]
  exact h.mono fun e w' ⟨h1, h2⟩ => ⟨h1, by rw [h2]; exact (Below.refl _ w).alloc (Nat.le_refl _) _⟩
theorem setC_one (cut : ByteArray) : (setC cut).all (·.oneCell') = true := by
  have := Lib.setCells_one cut.data.toList
  unfold setC
  rw [List.all_eq_true]
  intro v hv
  rw [Array.all_eq_true_iff_forall_mem] at this
  exact this v (Array.mem_toList_iff.1 hv)
theorem setC_b (cut : ByteArray) : Nat.beq (setC cut).length 256 = true := by rw [setC_len]; rfl
instance zSet : ZeroT Tryd.prog 146 (List.replicate 256 (.bool false)) := ⟨_, show still Tryd.prog (zeroValue 146) = some (.agg (List.toArray (List.replicate 256 (.bool false)))) by kernel_rfl, .agg _⟩
theorem trimRS_sv (G : Ctx) (H : List Ent) (cut s : ByteArray) (h2 : 2 ≤ cut.size) (hz : cut.size ≤ 1000) (hs : s.size ≤ 4000000) (ha : ∀ (j : Nat) b, cut.data.toList[j]? = some b → b.toNat < 128) : SV Tryd.prog G 50 [.string s, .string cut] H (.string (strOfNums (trN (inS cut) (nums s)))) := by
  have cM := fun H => mkSet_sv G H cut hz ha
  have hone := setC_one cut
  have hb := setC_b cut
  have hne : ¬ cut = ⟨#[]⟩ := fun e => by subst e; exact absurd h2 (by decide)
  have cR := fun H b t (h : HasBlk H b t (setC cut)) => trimR_sv G H b (hb := h) cut (nums s) (nums_bound s) (by rw [nums_length]; exact hs)
  rw [strOf_nums] at cR
  by_cases hs0 : s = ⟨#[]⟩
  · subst hs0
    refine sv_enter2 Tryd.func50 rfl rfl rfl rfl rfl ?_
    repeat' (first | (apply g_sl; first | (apply ks_nil; refine sl_nil ?_) | (apply ks_move; refine s_move rfl rfl ?_) | (apply ks_bin; refine s_bin rfl rfl rfl ?_; first | (refine bb_seq ?_) | (first | refine bb_of rfl ?_)) | (apply ks_asgn; refine s_asgn rfl rfl ?_) | (apply ks_pick; refine s_pick rfl rfl ?_; first | (apply kp_t; refine pk_t rfl ?_) | (apply kp_f; refine pk_f rfl ?_) | refine pk_s rfl rfl ?_) | (apply ks_extr; refine s_extr (y_extract rfl rfl rfl) rfl ?_) | (apply ks_index; first | (refine bb_seq ?_) | refine s_index (c_indexArr rfl rfl rfl (by omega) (by omega) rfl) rfl ?_ | refine s_index (c_indexArrA rfl rfl rfl (by omega) (by omega) rfl) rfl ?_ | refine s_index (c_indexStr rfl rfl rfl (by omega) rfl) rfl ?_) | (apply ks_fn; first | fail) | (apply ks_bi; first | (refine bb_seq ?_) | refine s_call (c_len rfl rfl) rfl ?_ | refine s_call (c_len_str rfl rfl) rfl ?_ | refine s_call (c_bi rfl rfl rfl rfl) rfl ?_ | refine c_append rfl rfl rfl rfl (by first | rfl | simp [ints]) (by first | rfl | exact ints_one _ | exact octs_one _ | exact strs_one _) (by omega) rfl rfl (fun _ _ => ?_) | refine c_append_nil rfl rfl rfl rfl (by first | rfl | simp [ints]) (by first | rfl | exact ints_one _ | exact octs_one _ | exact strs_one _) (by omega) rfl rfl (fun _ _ => ?_)) | (apply ks_store; first | first | refine c_store rfl rfl rfl rfl rfl rfl rfl ?_ | refine c_storew rfl rfl rfl rfl rfl rfl rfl rfl ?_ | refine c_storee rfl rfl rfl rfl rfl (by omega) rfl ?_ | (refine bb_seq ?_)) | (apply ks_alloc; refine c_alloc rfl rfl rfl rfl (fun _ => ?_)) | (apply ks_guard; first | (refine sl_gd rfl rfl rfl rfl ?_; first | (apply gd_t) | (apply gd_ft) | (apply gd_tf) | (apply gd_dec_t <;> intro hq <;> (try (exfalso; omega))) | (apply gd_dec_f <;> intro hq <;> (try (exfalso; omega))) | (apply gd_beq_t <;> intro hq <;> (try (exfalso; omega))) | (apply gd_beq_f <;> intro hq <;> (try (exfalso; omega))) | (apply gd_bne_t <;> intro hq <;> (try (exfalso; omega))) | (apply gd_bne_f <;> intro hq <;> (try (exfalso; omega))) | (apply gd_not_t <;> intro hq) | (apply gd_not_f <;> intro hq) | (apply gd_raw_t <;> intro hq) | (apply gd_raw_f <;> intro hq)) | refine sl_skip_u rfl rfl rfl rfl rfl rfl ?_) | (refine bb_seq ?_)) | (apply sw_seq) | (apply at_srd) | (apply sw_skip) | (apply sw_ret) | (apply sw_exit) | (apply sw_block) | (apply sw_region) | (refine sw_cd rfl ?_; first | (apply gd_t) | (apply gd_ft) | (apply gd_tf) | (apply gd_dec_t <;> intro hq <;> (try (exfalso; omega))) | (apply gd_dec_f <;> intro hq <;> (try (exfalso; omega))) | (apply gd_beq_t <;> intro hq <;> (try (exfalso; omega))) | (apply gd_beq_f <;> intro hq <;> (try (exfalso; omega))) | (apply gd_bne_t <;> intro hq <;> (try (exfalso; omega))) | (apply gd_bne_f <;> intro hq <;> (try (exfalso; omega))) | (apply gd_not_t <;> intro hq) | (apply gd_not_f <;> intro hq) | (apply gd_raw_t <;> intro hq) | (apply gd_raw_f <;> intro hq)) | (apply at_thn) | (apply at_thn_ret) | (apply at_thn_exit) | (apply at_inb) | (apply at_inb_ret) | (apply at_inb_exit) | refine at_inb_pass rfl ?_ | refine c_drawn (by kernel_rfl) ?_)
    all_goals first | (exact absurd rfl (by assumption)) | (exact absurd (by assumption) hne) | (refine e_sv (by first | exact .inl rfl | exact .inr rfl) rfl (by repeat (first | exact List.Sublist.refl _ | exact List.nil_sublist _ | refine List.Sublist.cons _ ?_)) ?_; rfl)
  · refine sv_enter2 Tryd.func50 rfl rfl rfl rfl rfl ?_
    repeat' (first | (apply g_sl; first | (apply ks_nil; refine sl_nil ?_) | (apply ks_move; refine s_move rfl rfl ?_) | (apply ks_bin; refine s_bin rfl rfl rfl ?_; first | first | (refine bb_seq ?_) | (refine c_storew rfl rfl rfl rfl hone hb rfl rfl ?_) | (first | refine bb_of rfl ?_)) | (apply ks_asgn; refine s_asgn rfl rfl ?_) | (apply ks_pick; refine s_pick rfl rfl ?_; first | (apply kp_t; refine pk_t rfl ?_) | (apply kp_f; refine pk_f rfl ?_) | refine pk_s rfl rfl ?_) | (apply ks_extr; refine s_extr (y_extract rfl rfl rfl) rfl ?_) | (apply ks_index; first | first | (refine bb_seq ?_) | (refine c_storew rfl rfl rfl rfl hone hb rfl rfl ?_) | refine s_index (c_indexArr rfl rfl rfl (by omega) (by omega) rfl) rfl ?_ | refine s_index (c_indexArrA rfl rfl rfl (by omega) (by omega) rfl) rfl ?_ | refine s_index (c_indexStr rfl rfl rfl (by omega) rfl) rfl ?_) | (apply ks_fn; first | first | refine c_callv rfl rfl rfl (cM _) rfl rfl ?_ | refine c_callv rfl rfl rfl (cR _ _ _ inferInstance) rfl rfl ?_) | (apply ks_bi; first | first | (refine bb_seq ?_) | (refine c_storew rfl rfl rfl rfl hone hb rfl rfl ?_) | refine s_call (c_len rfl rfl) rfl ?_ | refine s_call (c_len_str rfl rfl) rfl ?_ | refine s_call (c_bi rfl rfl rfl rfl) rfl ?_ | refine c_append rfl rfl rfl rfl (by first | rfl | simp [ints]) (by first | rfl | exact ints_one _ | exact octs_one _ | exact strs_one _) (by omega) rfl rfl (fun _ _ => ?_) | refine c_append_nil rfl rfl rfl rfl (by first | rfl | simp [ints]) (by first | rfl | exact ints_one _ | exact octs_one _ | exact strs_one _) (by omega) rfl rfl (fun _ _ => ?_)) | (apply ks_store; first | first | refine c_store rfl rfl rfl rfl rfl rfl rfl ?_ | refine c_storew rfl rfl rfl rfl rfl rfl rfl rfl ?_ | refine c_storee rfl rfl rfl rfl rfl (by omega) rfl ?_ | first | (refine bb_seq ?_) | (refine c_storew rfl rfl rfl rfl hone hb rfl rfl ?_)) | (apply ks_alloc; refine c_alloc rfl rfl rfl rfl (fun _ => ?_)) | (apply ks_guard; first | (refine sl_gd rfl rfl rfl rfl ?_; first | (apply gd_t) | (apply gd_ft) | (apply gd_tf) | (apply gd_dec_t <;> intro hq <;> (try (exfalso; omega))) | (apply gd_dec_f <;> intro hq <;> (try (exfalso; omega))) | (apply gd_beq_t <;> intro hq <;> (try (exfalso; omega))) | (apply gd_beq_f <;> intro hq <;> (try (exfalso; omega))) | (apply gd_bne_t <;> intro hq <;> (try (exfalso; omega))) | (apply gd_bne_f <;> intro hq <;> (try (exfalso; omega))) | (apply gd_not_t <;> intro hq) | (apply gd_not_f <;> intro hq) | (apply gd_raw_t <;> intro hq) | (apply gd_raw_f <;> intro hq)) | refine sl_skip_u rfl rfl rfl rfl rfl rfl ?_) | first | (refine bb_seq ?_) | (refine c_storew rfl rfl rfl rfl hone hb rfl rfl ?_)) | (apply sw_seq) | (apply at_srd) | (apply sw_skip) | (apply sw_ret) | (apply sw_exit) | (apply sw_block) | (apply sw_region) | (refine sw_cd rfl ?_; first | (apply gd_t) | (apply gd_ft) | (apply gd_tf) | (apply gd_dec_t <;> intro hq <;> (try (exfalso; omega))) | (apply gd_dec_f <;> intro hq <;> (try (exfalso; omega))) | (apply gd_beq_t <;> intro hq <;> (try (exfalso; omega))) | (apply gd_beq_f <;> intro hq <;> (try (exfalso; omega))) | (apply gd_bne_t <;> intro hq <;> (try (exfalso; omega))) | (apply gd_bne_f <;> intro hq <;> (try (exfalso; omega))) | (apply gd_not_t <;> intro hq) | (apply gd_not_f <;> intro hq) | (apply gd_raw_t <;> intro hq) | (apply gd_raw_f <;> intro hq)) | (apply at_thn) | (apply at_thn_ret) | (apply at_thn_exit) | (apply at_inb) | (apply at_inb_ret) | (apply at_inb_exit) | refine at_inb_pass rfl ?_ | refine c_drawn (by kernel_rfl) ?_)
    all_goals first | (exact absurd (by assumption) hs0) | (exact absurd (by assumption) hne) | (exfalso; omega) | (refine e_sv (by first | exact .inl rfl | exact .inr rfl) rfl (by repeat (first | exact List.Sublist.refl _ | exact List.nil_sublist _ | refine List.Sublist.cons _ ?_)) ?_; rfl)
end Go.Proofs.YtflmckoolagikaaDoor
end
section
namespace Go.Proofs.YtflmckoolagikaaDoor
open Go Go.RowKit Go.Fw Go.Sx
set_option maxRecDepth 100000
set_option maxHeartbeats 1000000
attribute [local irreducible] SW SL SQ AtQ SV SC BB LD PK Yields SO SOT SOA SY
def Pow10 (G : Ctx) (H : List Ent) : Prop := ∀ w, Holds G H w → Lib.TabIs Tryd.prog w "internal/strconv.uint64pow10" .u64 Lib.pow10Tab
theorem itoaN_sv (G : Ctx) (H : List Ent) (hT : Pow10 G H) (n : Nat) (h : n ≤ 9223372036854775807) : SV Tryd.prog G 43 [.int .i64 n] H (.string (numB n)) :=
  sv_of_calls (callee_of Tryd.func43 rfl rfl) fun w hw => (Tryd.strconv_Itoa (n : Int) (by omega) (by omega) w (hT w hw)).mono fun e w' ⟨he, k, os, hw'⟩ => by
    refine ⟨?_, by rw [hw']; exact Lib.below_grow _ w (Nat.le_refl _) k os⟩
    rw [he]
    have : Lib.itoa (n : Int) = Lib.decDigits n := if_neg (by omega)
    rw [this]
    rfl
end Go.Proofs.YtflmckoolagikaaDoor
end
section
namespace Go.Proofs.YtflmckoolagikaaDoor
open Go Go.RowKit Go.Fw Go.Sx
set_option maxRecDepth 1000000
set_option maxHeartbeats 4000000
theorem tab_reads {P : Program} {W : World} {name : String} {k : IntKind} {zs : List Int} {g : Nat} {t e : TypeId} {n : Nat} (hg : P.globalNamed name = some g) (hty : (P.globals[g]?).map (·.type) = some t) (ht : P.underlying t = some (.array n e)) (he : P.underlying e = some (.int k)) (hce : P.cellsOf e = 1) (hct : P.cellsOf t = n)
    (h : Lib.VarReads P W name (Lib.tabData k zs)) : Lib.TabIs P W name k zs := by
  obtain ⟨g', t', cs, fuel, p, hg', ht', hvar, hd⟩ := h
  obtain rfl := Option.some.inj (hg.symm.trans hg')
  obtain rfl := Option.some.inj (hty.symm.trans ht')
  unfold Lib.TabIs
  rw [hvar, ← Lib.cells_of_tab ht he hce hct hd]
theorem pow10_data : (Rows.laid_internal_strconv_uint64pow10 : DataW Unit) = Lib.tabData .u64 Lib.pow10Tab := by kernel_rfl
theorem pow10_hold {laid : List (String × DataW Unit)} {W : World} (hL : laidMet Tryd.prog laid W) (h1 : ("internal/strconv.uint64pow10", Rows.laid_internal_strconv_uint64pow10) ∈ laid) : ∀ H, Pow10 ⟨W.heap.size, W⟩ H := fun H w hw =>
  Lib.tabBelow_of_tabIs (tab_reads (g := 5) (t := 236) (e := 51) (n := 20) (by kernel_rfl) (by kernel_rfl) Tryd.underlying236 Tryd.underlying51 (by kernel_rfl) (by kernel_rfl) (pow10_data ▸ Lib.laidMet.reads hL h1)) w hw.below
end Go.Proofs.YtflmckoolagikaaDoor
end
section
namespace Go.Proofs.YtflmckoolagikaaDoor
open Go Go.RowKit Go.Fw Go.Sx
set_option maxRecDepth 100000
set_option maxHeartbeats 2000000
def natsI (l : List UInt8) : List Int := l.map fun u => (u.toNat : Int)
theorem natsI_app (a b : List UInt8) : natsI (a ++ b) = natsI a ++ natsI b := List.map_append
theorem dec_dig : ∀ (n : Nat), ∀ u ∈ Lib.decDigits n, 48 ≤ u.toNat ∧ u.toNat ≤ 57 := by
  intro n
  induction n using Nat.strongRecOn with
  | _ n ih =>
    intro u hu
    rw [Lib.decDigits] at hu
    have hof : ∀ k, k < 10 → (UInt8.ofNat (48 + k)).toNat = 48 + k := fun k hk => by
      rw [UInt8.toNat_ofNat']
      omega
    split at hu
    · rename_i h
      rw [List.mem_singleton] at hu
      rw [hu, hof n h]
      omega
    · rename_i h
      rcases List.mem_append.1 hu with hu | hu
      · exact ih (n / 10) (by omega) u hu
      · rw [List.mem_singleton] at hu
        rw [hu, hof (n % 10) (by omega)]
        omega
/-- The digits, as numbers. -/
def digI (n : Nat) : List Int := natsI (Lib.decDigits n)
theorem digI_numB (n : Nat) : nums (numB n) = digI n := rfl
theorem digI_eq (n : Nat) : digI n = if n < 10 then [48 + (n : Int)] else digI (n / 10) ++ [48 + ((n % 10 : Nat) : Int)] := by
  have hof : ∀ k, k < 10 → natsI [UInt8.ofNat (48 + k)] = [48 + (k : Int)] := fun k hk => by
    unfold natsI
    rw [List.map_cons, List.map_nil, UInt8.toNat_ofNat']
    congr 1
    omega
  unfold digI
  rw [Lib.decDigits]
  split
  · rename_i h
    rw [hof n h]
  · rw [natsI_app, hof (n % 10) (by omega)]
theorem digI_pos (n : Nat) : 1 ≤ (digI n).length := by
  rw [digI_eq]
  split <;> simp
theorem digI_len (k : Nat) : ∀ n : Nat, n < 10 ^ (k + 1) → (digI n).length ≤ k + 1 := by
  induction k with
  | zero =>
    intro n h
    rw [digI_eq, if_pos (by simpa using h)]
    exact Nat.le_refl _
  | succ k ih =>
    intro n h
    rw [digI_eq]
    split
    · simp
    · have h2 := ih (n / 10) (by rw [Nat.div_lt_iff_lt_mul (by decide)]; rw [Nat.pow_succ] at h; omega)
      rw [List.length_append]
      simpa using h2
end Go.Proofs.YtflmckoolagikaaDoor
end
section
namespace Go.Proofs.YtflmckoolagikaaDoor
open Go Go.RowKit Go.Fw Go.Sx
set_option maxRecDepth 100000
set_option maxHeartbeats 2000000
abbrev mouV (b c r q : Int) (up : Bool) : Value := .agg #[.int .i64 b, .int .i64 c, .int .i64 r, .int .i64 q, .bool up]
def okM (b c r q : Int) (up : Bool) : Prop := (b = 0 ∨ b = 1 ∨ b = 2 ∨ b = 64 ∨ b = 65) ∧ 0 ≤ c ∧ c ≤ 1000 ∧ 0 ≤ r ∧ r ≤ 1000 ∧ 0 ≤ q ∧ q ≤ 7 ∧ (up = true → b ≤ 2)
instance (b c r q : Int) (up : Bool) : Decidable (okM b c r q up) := by unfold okM; infer_instance
def endM (up : Bool) : ByteArray := if up then ⟨#[109]⟩ else ⟨#[77]⟩
/-- What a mouse's event is in signs. -/
def textM (b c r : Nat) (up : Bool) : ByteArray := (((((⟨#[27, 91, 60]⟩ : ByteArray) ++ numB b) ++ ⟨#[59]⟩) ++ numB c) ++ ⟨#[59]⟩) ++ numB r ++ endM up
def rawM (b c r : Int) : ByteArray := strOfNums [27, 91, 77, b + 32, c + 33, r + 33]
def mouseP (b c r q : Int) (up : Bool) (z5 z10 : Int) : ByteArray × Int :=
  if okM b c r q up then (if z5 = 0 then (⟨#[]⟩, 7) else if z10 ≠ 0 then (textM (b + 4 * q).toNat (c + 1).toNat (r + 1).toNat up, 0) else if 94 < c ∨ 94 < r then (⟨#[]⟩, 2) else (rawM ((if up then 3 else b) + 4 * q) c r, 0)) else (⟨#[]⟩, 1)
def lastM (up : Bool) : Int := if up then 109 else 77
theorem nums_textM (b c r : Nat) (up : Bool) : nums (textM b c r up) = [27, 91, 60] ++ (digI b ++ 59 :: (digI c ++ 59 :: (digI r ++ [lastM up]))) := by
  unfold textM
  have e : nums (endM up) = [lastM up] := by cases up <;> rfl
  simp only [nums_append, digI_numB, e]
  rw [show nums (⟨#[27, 91, 60]⟩ : ByteArray) = [27, 91, 60] from rfl, show nums (⟨#[59]⟩ : ByteArray) = [59] from rfl]
  simp only [List.append_assoc]
  rfl
/-- Where the document's reader stands: which number, the three of them, digits. -/
abbrev Sc := Nat × Int × Int × Int × Nat
def scS (prev : Int) (st : Sc) (x : Int) : Option Sc :=
  if (48 ≤ x ∧ x ≤ 57) ∧ st.2.2.2.2 < 5 ∧ ¬ (st.2.2.2.2 = 1 ∧ prev = 48) then
    some (st.1, (if st.1 = 0 then 10 * st.2.1 + x - 48 else st.2.1), (if st.1 = 1 then 10 * st.2.2.1 + x - 48 else st.2.2.1), (if st.1 = 2 then 10 * st.2.2.2.1 + x - 48 else st.2.2.2.1), st.2.2.2.2 + 1)
  else if x = 59 ∧ 0 < st.2.2.2.2 ∧ st.1 < 2 then some (st.1 + 1, st.2.1, st.2.2.1, st.2.2.2.1, 0) else none
def scF (prev : Int) (st : Sc) : List Int → Option Sc
  | [] => some st
  | x :: l => match scS prev st x with
    | none => none
    | some st' => scF x st' l
def curT (a : Int) (dg : Nat) (T : List Int) : Prop := (dg = 0 ∧ a = 0 ∧ T = []) ∨ (1 ≤ dg ∧ ∃ n : Nat, a = n ∧ T = digI n ∧ dg = T.length)
def txt (st : Sc) (T : List Int) : Prop :=
  (st.1 = 0 ∧ st.2.2.1 = 0 ∧ st.2.2.2.1 = 0 ∧ curT st.2.1 st.2.2.2.2 T) ∨
  (st.1 = 1 ∧ st.2.2.2.1 = 0 ∧ ∃ (n0 : Nat) (T' : List Int), st.2.1 = n0 ∧ T = digI n0 ++ 59 :: T' ∧ curT st.2.2.1 st.2.2.2.2 T') ∨
  (st.1 = 2 ∧ ∃ (n0 n1 : Nat) (T' : List Int), st.2.1 = n0 ∧ st.2.2.1 = n1 ∧ T = digI n0 ++ 59 :: (digI n1 ++ 59 :: T') ∧ curT st.2.2.2.1 st.2.2.2.2 T')
def lastIs (T : List Int) (prev : Int) : Prop := ∀ T0 y, T = T0 ++ [y] → y = prev
theorem digI_snoc (n : Nat) (d : Nat) (hn : 1 ≤ n) (hd : d < 10) : digI (10 * n + d) = digI n ++ [48 + (d : Int)] := by
  rw [digI_eq, if_neg (by omega), show (10 * n + d) / 10 = n from by omega, show (10 * n + d) % 10 = d from by omega]
theorem curT_dig {a x prev : Int} {dg : Nat} {T : List Int} (h : curT a dg T) (hp : lastIs T prev) (hx : 48 ≤ x ∧ x ≤ 57) (hn : ¬ (dg = 1 ∧ prev = 48)) : curT (10 * a + x - 48) (dg + 1) (T ++ [x]) := by
  right
  rcases h with ⟨rfl, rfl, rfl⟩ | ⟨h1, n, rfl, rfl, h2⟩
  · refine ⟨by omega, (x - 48).toNat, by omega, ?_, rfl⟩
    rw [digI_eq, if_pos (by omega), List.nil_append]
    congr 1
    omega
  · have hn1 : 1 ≤ n := by
      refine Nat.pos_of_ne_zero fun e => hn ?_
      subst e
      have e2 : digI 0 = [48] := by rw [digI_eq]; rfl
      rw [e2] at h2 hp
      exact ⟨h2, (hp [] 48 rfl).symm⟩
    refine ⟨by omega, 10 * n + (x - 48).toNat, by omega, ?_, by rw [List.length_append, h2]; rfl⟩
    rw [digI_snoc n _ hn1 (by omega)]
    congr 2
    omega
theorem lastIs_snoc (T : List Int) (x : Int) : lastIs (T ++ [x]) x := fun T0 y e => (List.append_inj' e rfl).2 |> fun h => (List.cons.inj h).1.symm
theorem last_of {A T : List Int} {c prev : Int} (h : lastIs (A ++ c :: T) prev) : lastIs T prev := fun T0 y e => h (A ++ c :: T0) y (by rw [e, List.append_assoc]; rfl)
theorem scS_sound {prev x : Int} {st st' : Sc} {T : List Int} (h : txt st T) (hp : lastIs T prev) (hs : scS prev st x = some st') : txt st' (T ++ [x]) := by
  obtain ⟨k, a0, a1, a2, dg⟩ := st
  unfold scS at hs
  dsimp only at hs
  by_cases hc : (48 ≤ x ∧ x ≤ 57) ∧ dg < 5 ∧ ¬ (dg = 1 ∧ prev = 48)
  · rw [if_pos hc, Option.some.injEq] at hs
    subst hs
    unfold txt at h ⊢
    dsimp only at h ⊢
    rcases h with ⟨rfl, rfl, rfl, h⟩ | ⟨rfl, rfl, n0, T', rfl, rfl, h⟩ | ⟨rfl, n0, n1, T', rfl, rfl, rfl, h⟩
    · exact .inl ⟨rfl, rfl, rfl, curT_dig h hp hc.1 hc.2.2⟩
    · refine .inr (.inl ⟨rfl, rfl, n0, T' ++ [x], rfl, by rw [List.append_assoc]; rfl, curT_dig h (last_of hp) hc.1 hc.2.2⟩)
    · refine .inr (.inr ⟨rfl, n0, n1, T' ++ [x], rfl, rfl, by simp, curT_dig h (last_of (last_of hp)) hc.1 hc.2.2⟩)
  · rw [if_neg hc] at hs
    by_cases hc2 : x = 59 ∧ 0 < dg ∧ k < 2
    · rw [if_pos hc2, Option.some.injEq] at hs
      subst hs
      obtain ⟨rfl, hdg, hk⟩ := hc2
      unfold txt at h ⊢
      dsimp only at h ⊢
      rcases h with ⟨rfl, rfl, rfl, h⟩ | ⟨rfl, rfl, n0, T', rfl, rfl, h⟩ | ⟨rfl, h⟩
      · rcases h with ⟨h, _⟩ | ⟨_, n, rfl, rfl, _⟩
        · omega
        · exact .inr (.inl ⟨rfl, rfl, n, [], rfl, rfl, .inl ⟨rfl, rfl, rfl⟩⟩)
      · rcases h with ⟨h, _⟩ | ⟨_, n, rfl, rfl, _⟩
        · omega
        · exact .inr (.inr ⟨rfl, n0, n, [], rfl, rfl, by simp, .inl ⟨rfl, rfl, rfl⟩⟩)
      · omega
    · rw [if_neg hc2] at hs; cases hs
theorem scF_sound : ∀ (l : List Int) (prev : Int) (st st' : Sc) (T : List Int), txt st T → lastIs T prev → scF prev st l = some st' → txt st' (T ++ l)
  | [], prev, st, st', T, h, _, hs => by
    unfold scF at hs
    rw [Option.some.injEq] at hs
    subst hs
    rw [List.append_nil]
    exact h
  | x :: l, prev, st, st', T, h, hp, hs => by
    unfold scF at hs
    cases hst : scS prev st x with
    | none => rw [hst] at hs; cases hs
    | some s2 =>
      rw [hst] at hs
      have := scF_sound l x s2 st' (T ++ [x]) (scS_sound h hp hst) (lastIs_snoc T x) hs
      rw [List.append_assoc] at this
      exact this
theorem scF_dig0 (a0 a1 : Int) : ∀ (n : Nat), n < 100000 → ∀ prev : Int, ∃ p : Int, ((digI n).length = 1 → p = 48 → n = 0) ∧ ∀ rest, scF prev ((0, 0, 0, 0, 0) : Sc) (digI n ++ rest) = scF p ((0, n, 0, 0, (digI n).length) : Sc) rest := by
  intro n
  induction n using Nat.strongRecOn with
  | _ n ih =>
    intro hn prev
    by_cases h : n < 10
    · have e0 : digI n = [48 + (n : Int)] := by rw [digI_eq, if_pos h]
      refine ⟨48 + n, fun _ h => by omega, fun rest => ?_⟩
      have e : scS prev ((0, 0, 0, 0, 0) : Sc) (48 + (n : Int)) = some ((0, n, 0, 0, (digI n).length) : Sc) := by
        unfold scS
        dsimp only
        rw [if_pos ⟨by omega, by decide, by omega⟩, e0]
        simp only [reduceIte, Nat.reduceEqDiff, List.length_cons, List.length_nil]
        congr 1
        ext <;> simp <;> omega
      conv => lhs; rw [e0]
      show (match scS prev ((0, 0, 0, 0, 0) : Sc) (48 + (n : Int)) with | none => none | some st' => scF (48 + (n : Int)) st' rest) = _
      rw [e]
    · obtain ⟨p, h1, h2⟩ := ih (n / 10) (by omega) (by omega) prev
      have hl := digI_len 3 (n / 10) (by omega)
      have hp := digI_pos (n / 10)
      have e0 : digI n = digI (n / 10) ++ [48 + ((n % 10 : Nat) : Int)] := by rw [digI_eq, if_neg h]
      refine ⟨48 + ((n % 10 : Nat) : Int), fun h => by rw [e0] at h; simp only [List.length_append, List.length_cons, List.length_nil] at h; omega, fun rest => ?_⟩
      conv => lhs; rw [e0]
      rw [List.append_assoc, h2]
      have e : scS p ((0, ((n / 10 : Nat) : Int), 0, 0, (digI (n / 10)).length) : Sc) (48 + ((n % 10 : Nat) : Int)) = some ((0, n, 0, 0, (digI n).length) : Sc) := by
        unfold scS
        dsimp only
        rw [if_pos ⟨by omega, by omega, fun hh => by have := h1 hh.1 hh.2; omega⟩, e0]
        simp only [reduceIte, Nat.reduceEqDiff, List.length_append, List.length_cons, List.length_nil]
        congr 1
        ext <;> simp <;> omega
      show (match scS p ((0, ((n / 10 : Nat) : Int), 0, 0, (digI (n / 10)).length) : Sc) (48 + ((n % 10 : Nat) : Int)) with | none => none | some st' => scF (48 + ((n % 10 : Nat) : Int)) st' rest) = _
      rw [e]
theorem scF_dig1 (a0 a1 : Int) : ∀ (n : Nat), n < 100000 → ∀ prev : Int, ∃ p : Int, ((digI n).length = 1 → p = 48 → n = 0) ∧ ∀ rest, scF prev ((1, a0, 0, 0, 0) : Sc) (digI n ++ rest) = scF p ((1, a0, n, 0, (digI n).length) : Sc) rest := by
  intro n
  induction n using Nat.strongRecOn with
  | _ n ih =>
    intro hn prev
    by_cases h : n < 10
    · have e0 : digI n = [48 + (n : Int)] := by rw [digI_eq, if_pos h]
      refine ⟨48 + n, fun _ h => by omega, fun rest => ?_⟩
      have e : scS prev ((1, a0, 0, 0, 0) : Sc) (48 + (n : Int)) = some ((1, a0, n, 0, (digI n).length) : Sc) := by
        unfold scS
        dsimp only
        rw [if_pos ⟨by omega, by decide, by omega⟩, e0]
        simp only [reduceIte, Nat.reduceEqDiff, List.length_cons, List.length_nil]
        congr 1
        ext <;> simp <;> omega
      conv => lhs; rw [e0]
      show (match scS prev ((1, a0, 0, 0, 0) : Sc) (48 + (n : Int)) with | none => none | some st' => scF (48 + (n : Int)) st' rest) = _
      rw [e]
    · obtain ⟨p, h1, h2⟩ := ih (n / 10) (by omega) (by omega) prev
      have hl := digI_len 3 (n / 10) (by omega)
      have hp := digI_pos (n / 10)
      have e0 : digI n = digI (n / 10) ++ [48 + ((n % 10 : Nat) : Int)] := by rw [digI_eq, if_neg h]
      refine ⟨48 + ((n % 10 : Nat) : Int), fun h => by rw [e0] at h; simp only [List.length_append, List.length_cons, List.length_nil] at h; omega, fun rest => ?_⟩
      conv => lhs; rw [e0]
      rw [List.append_assoc, h2]
      have e : scS p ((1, a0, ((n / 10 : Nat) : Int), 0, (digI (n / 10)).length) : Sc) (48 + ((n % 10 : Nat) : Int)) = some ((1, a0, n, 0, (digI n).length) : Sc) := by
        unfold scS
        dsimp only
        rw [if_pos ⟨by omega, by omega, fun hh => by have := h1 hh.1 hh.2; omega⟩, e0]
        simp only [reduceIte, Nat.reduceEqDiff, List.length_append, List.length_cons, List.length_nil]
        congr 1
        ext <;> simp <;> omega
      show (match scS p ((1, a0, ((n / 10 : Nat) : Int), 0, (digI (n / 10)).length) : Sc) (48 + ((n % 10 : Nat) : Int)) with | none => none | some st' => scF (48 + ((n % 10 : Nat) : Int)) st' rest) = _
      rw [e]
theorem scF_dig2 (a0 a1 : Int) : ∀ (n : Nat), n < 100000 → ∀ prev : Int, ∃ p : Int, ((digI n).length = 1 → p = 48 → n = 0) ∧ ∀ rest, scF prev ((2, a0, a1, 0, 0) : Sc) (digI n ++ rest) = scF p ((2, a0, a1, n, (digI n).length) : Sc) rest := by
  intro n
  induction n using Nat.strongRecOn with
  | _ n ih =>
    intro hn prev
    by_cases h : n < 10
    · have e0 : digI n = [48 + (n : Int)] := by rw [digI_eq, if_pos h]
      refine ⟨48 + n, fun _ h => by omega, fun rest => ?_⟩
      have e : scS prev ((2, a0, a1, 0, 0) : Sc) (48 + (n : Int)) = some ((2, a0, a1, n, (digI n).length) : Sc) := by
        unfold scS
        dsimp only
        rw [if_pos ⟨by omega, by decide, by omega⟩, e0]
        simp only [reduceIte, Nat.reduceEqDiff, List.length_cons, List.length_nil]
        congr 1
        ext <;> simp <;> omega
      conv => lhs; rw [e0]
      show (match scS prev ((2, a0, a1, 0, 0) : Sc) (48 + (n : Int)) with | none => none | some st' => scF (48 + (n : Int)) st' rest) = _
      rw [e]
    · obtain ⟨p, h1, h2⟩ := ih (n / 10) (by omega) (by omega) prev
      have hl := digI_len 3 (n / 10) (by omega)
      have hp := digI_pos (n / 10)
      have e0 : digI n = digI (n / 10) ++ [48 + ((n % 10 : Nat) : Int)] := by rw [digI_eq, if_neg h]
      refine ⟨48 + ((n % 10 : Nat) : Int), fun h => by rw [e0] at h; simp only [List.length_append, List.length_cons, List.length_nil] at h; omega, fun rest => ?_⟩
      conv => lhs; rw [e0]
      rw [List.append_assoc, h2]
      have e : scS p ((2, a0, a1, ((n / 10 : Nat) : Int), (digI (n / 10)).length) : Sc) (48 + ((n % 10 : Nat) : Int)) = some ((2, a0, a1, n, (digI n).length) : Sc) := by
        unfold scS
        dsimp only
        rw [if_pos ⟨by omega, by omega, fun hh => by have := h1 hh.1 hh.2; omega⟩, e0]
        simp only [reduceIte, Nat.reduceEqDiff, List.length_append, List.length_cons, List.length_nil]
        congr 1
        ext <;> simp <;> omega
      show (match scS p ((2, a0, a1, ((n / 10 : Nat) : Int), (digI (n / 10)).length) : Sc) (48 + ((n % 10 : Nat) : Int)) with | none => none | some st' => scF (48 + ((n % 10 : Nat) : Int)) st' rest) = _
      rw [e]
theorem scF_semi (prev : Int) (k : Nat) (a0 a1 a2 : Int) (dg : Nat) (hd : 0 < dg) (hk : k < 2) (rest : List Int) : scF prev ((k, a0, a1, a2, dg) : Sc) (59 :: rest) = scF 59 (k + 1, a0, a1, a2, 0) rest := by
  have e : scS prev ((k, a0, a1, a2, dg) : Sc) 59 = some (k + 1, a0, a1, a2, 0) := by
    unfold scS
    dsimp only
    rw [if_neg (by omega), if_pos ⟨rfl, hd, hk⟩]
  show (match scS prev ((k, a0, a1, a2, dg) : Sc) 59 with | none => none | some st' => scF 59 st' rest) = _
  rw [e]
/-- What was written is read. -/
theorem scF_all (prev : Int) (n0 n1 n2 : Nat) (h0 : n0 < 100000) (h1 : n1 < 100000) (h2 : n2 < 100000) : scF prev ((0, 0, 0, 0, 0) : Sc) (digI n0 ++ 59 :: (digI n1 ++ 59 :: digI n2)) = some ((2, (n0 : Int), (n1 : Int), (n2 : Int), (digI n2).length) : Sc) := by
  obtain ⟨p0, -, e0⟩ := scF_dig0 0 0 n0 h0 prev
  obtain ⟨p1, -, e1⟩ := scF_dig1 n0 0 n1 h1 59
  obtain ⟨p2, -, e2⟩ := scF_dig2 n0 n1 n2 h2 59
  have e2 := e2 []
  rw [List.append_nil] at e2
  rw [e0, scF_semi p0 0 _ _ _ _ (by have := digI_pos n0; omega) (by decide), e1, scF_semi p1 1 _ _ _ _ (by have := digI_pos n1; omega) (by decide), e2]
  rfl
/-- This event, and no other, has this text. -/
def goodM (s : ByteArray) (b c r q : Int) (up : Bool) : Prop := okM b c r q up ∧ s = textM (b + 4 * q).toNat (c + 1).toNat (r + 1).toNat up
theorem goodM_scan {s : ByteArray} {b c r q : Int} {up : Bool} (h : goodM s b c r q up) : nums s = [27, 91, 60] ++ (digI (b + 4 * q).toNat ++ 59 :: (digI (c + 1).toNat ++ 59 :: digI (r + 1).toNat)) ++ [lastM up] ∧ ∃ dg, 0 < dg ∧ scF 60 (0, 0, 0, 0, 0) (digI (b + 4 * q).toNat ++ 59 :: (digI (c + 1).toNat ++ 59 :: digI (r + 1).toNat)) = some (2, b + 4 * q, c + 1, r + 1, dg) := by
  obtain ⟨h1, rfl⟩ := h
  unfold okM at h1
  obtain ⟨hb, hc⟩ := h1
  refine ⟨by rw [nums_textM]; simp, (digI (r + 1).toNat).length, digI_pos _, ?_⟩
  rw [scF_all 60 _ _ _ (by omega) (by omega) (by omega), show (((b + 4 * q).toNat : Nat) : Int) = b + 4 * q from by omega, show (((c + 1).toNat : Nat) : Int) = c + 1 from by omega, show (((r + 1).toNat : Nat) : Int) = r + 1 from by omega]
theorem goodM_uniq {s : ByteArray} {b c r q b' c' r' q' : Int} {up up' : Bool} (h : goodM s b c r q up) (h' : goodM s b' c' r' q' up') : b = b' ∧ c = c' ∧ r = r' ∧ q = q' ∧ up = up' := by
  obtain ⟨e1, d1, -, s1⟩ := goodM_scan h
  obtain ⟨e2, d2, -, s2⟩ := goodM_scan h'
  rw [e1] at e2
  obtain ⟨e3, e4⟩ := List.append_inj' e2 rfl
  have e5 := List.append_cancel_left e3
  rw [e5, s2] at s1
  simp only [Option.some.injEq, Prod.mk.injEq] at s1
  have hu : up = up' := by
    have := (List.cons.inj e4).1
    unfold lastM at this
    cases up <;> cases up' <;> first | rfl | (exfalso; simp at this)
  have k1 := h.1
  have k2 := h'.1
  unfold okM at k1 k2
  obtain ⟨hb, hc⟩ := k1
  obtain ⟨hb', hc'⟩ := k2
  refine ⟨?_, by omega, by omega, ?_, hu⟩ <;> omega
/-- What the scan found is the text of the event. -/
theorem scan_good {s : ByteArray} {M : List Int} {b c r q : Int} {up : Bool} {n0 n1 n2 : Int} {dg : Nat} (hs : nums s = [27, 91, 60] ++ M ++ [lastM up]) (hd : 0 < dg) (h : scF 60 (0, 0, 0, 0, 0) M = some (2, n0, n1, n2, dg)) (hok : okM b c r q up) (h0 : b + 4 * q = n0) (h1 : c + 1 = n1) (h2 : r + 1 = n2) : goodM s b c r q up := by
  have hx := scF_sound M 60 _ _ [] (.inl ⟨rfl, rfl, rfl, .inl ⟨rfl, rfl, rfl⟩⟩) (fun T0 y e => absurd e (by simp)) h
  rw [List.nil_append] at hx
  refine ⟨hok, nums_inj ?_⟩
  rw [hs, nums_textM]
  unfold txt at hx
  dsimp only at hx
  rcases hx with ⟨h, _⟩ | ⟨h, _⟩ | ⟨_, m0, m1, T', e0, e1, rfl, hc⟩
  · exact absurd h (by decide)
  · exact absurd h (by decide)
  · rcases hc with ⟨h, _⟩ | ⟨_, m2, e2, rfl, _⟩
    · omega
    · rw [h0, h1, h2, e0, e1, e2]
      simp
end Go.Proofs.YtflmckoolagikaaDoor
end
