/- Texts of this claim, merged: Sxp CardM EnvP IdxG SxC Cho KmpA Bet Slc About Slc4 Shelf. -/
import Derived.Test.YtflmckoolagikaaDoorEn1
import Derived.WalkKit
import Derived.WalkSpells
import Derived.WalkLawsBesides
import Derived.Handy
import Derived.Lib.Hide
import Derived.Laws.BitsAllLaws
import Derived.Deep.MidRow
import Derived.Deep.WholeRow
import Derived.BigQuiet
import Derived.Laws.CopyOwn
import Derived.Deep.QuietTactic
import Derived.Laws.AppendOwnNone
import Derived.Laws.MakeOwn
import Derived.Laws.IdiomStrings
import Derived.OrdersHeld
import Derived.Lib.SliceRun
import Derived.ChangeKeysEq
import Derived.Laws.CopyRow
import Derived.Test.YtflmckoolagikaaDoorRows
import Derived.ProofKit
import Derived.OpenShut
import Derived.JoinedCond
import Derived.SliceStrings
import Derived.Test.YtflmckoolagikaaDoorCards
import Derived.Test.YtflmckoolagikaaDoorTie
import Derived.Deep.DeepHandedRow
import Derived.Shelf.Vars
import Derived.Lib.Replace
import Derived.Lib.AppendStr
import Derived.ArgAppend
import Derived.Shelf.Strings.Builder1
import Derived.Shelf.Strings.Builder2
import Derived.Shelf.Strings.OnBuilder
import Derived.Shelf.Strings.Trim
import Derived.Shelf.Small.Utf8
import Derived.Shelf.Small.Strs
import Derived.Shelf.Strings.BuilderF
import Derived.Shelf.Strconv.Atoi
import Derived.Shelf.Strconv.Itoa0
import Derived.Shelf.Strconv.Itoa1
import Derived.Shelf.LaysM
import Derived.Shelf.Strconv.Itoa2
import Derived.Shelf.Strconv.Itoa3
import Derived.Shelf.Strconv.AtoiErrFast
import Derived.Shelf.Strconv.ParseIntEmpty
import Derived.Shelf.Strconv.AtoiFail
import Derived.Shelf.Strconv.Clone
import Derived.Shelf.Strconv.SyntaxError
import Derived.Shelf.LaysC
import Derived.Shelf.Strconv.ToError
import Derived.Shelf.Strconv.AtoiErr
import Derived.Shelf.Strconv.Lower
import Derived.Shelf.Strconv.ParseUint10
import Derived.Shelf.Strconv.ParseUint10Empty
import Derived.Shelf.Strconv.ParseUint10Any
import Derived.Shelf.Strconv.ParseInt10
import Derived.Shelf.Strconv.AtoiLong
import Derived.Shelf.Strconv.AtoiInnerAll
import Derived.Shelf.Strconv.RangeError
import Derived.Shelf.Strconv.ToErrorRange
import Derived.Shelf.Strconv.AtoiAll
import Derived.Shelf.Strconv.ErrVarAll
import Derived.Shelf.Strings.Search1
import Derived.Shelf.Strings.Search2
import Derived.Shelf.Strings.Search3
import Derived.Shelf.Strings.Count
import Derived.Shelf.Strings.Shaped
import Derived.Shelf.Strings.Prefix
import Derived.Shelf.Strings.Split
import Derived.Shelf.Strings.Replace
import Derived.Shelf.Strings.SplitShaped
import Derived.Shelf.Strings.Runes
import Derived.Shelf.Strings.AsciiSet
import Derived.Shelf.Bits.Mul64
import Derived.Shelf.Strings.Repeat
import Derived.Shelf.Unicode.DecodeSlow
import Derived.Shelf.Unicode.DecodeAny
import Derived.Shelf.Slices.Equal
import Derived.Shelf.Unicode.ValidAny
import Derived.Test.YtflmckoolagikaaDoorProg
section
namespace Go.Proofs.YtflmckoolagikaaDoor
open Go Go.RowKit Go.Fw Go.Sx
set_option maxRecDepth 100000
instance : Wide Tryd.prog := ⟨by kernel_rfl⟩
instance : Sc Tryd.prog 1 := ⟨_, Tryd.underlying1, rfl, by kernel_rfl⟩
instance : ZeroT Tryd.prog 1 [.nilFunc] := ⟨.nilFunc, by kernel_rfl, .one rfl⟩
instance : Sc Tryd.prog 2 := ⟨_, Tryd.underlying2, rfl, by kernel_rfl⟩
instance : ZeroT Tryd.prog 2 [.int .i64 0] := ⟨.int .i64 0, by kernel_rfl, .one rfl⟩
instance : IntT Tryd.prog 2 .i64 := ⟨Tryd.underlying2⟩
instance : Sc Tryd.prog 3 := ⟨_, Tryd.underlying3, rfl, by kernel_rfl⟩
instance : ZeroT Tryd.prog 3 [.int .i64 0] := ⟨.int .i64 0, by kernel_rfl, .one rfl⟩
instance : IntT Tryd.prog 3 .i64 := ⟨Tryd.underlying3⟩
instance : Sc Tryd.prog 4 := ⟨_, Tryd.underlying4, rfl, by kernel_rfl⟩
instance : ZeroT Tryd.prog 4 [.bool false] := ⟨.bool false, by kernel_rfl, .one rfl⟩
instance : Sc Tryd.prog 5 := ⟨_, Tryd.underlying5, rfl, by kernel_rfl⟩
instance : ZeroT Tryd.prog 5 [.int .u8 0] := ⟨.int .u8 0, by kernel_rfl, .one rfl⟩
instance : IntT Tryd.prog 5 .u8 := ⟨Tryd.underlying5⟩
instance : Sc Tryd.prog 6 := ⟨_, Tryd.underlying6, rfl, by kernel_rfl⟩
instance : ZeroT Tryd.prog 6 [.int .u8 0] := ⟨.int .u8 0, by kernel_rfl, .one rfl⟩
instance : IntT Tryd.prog 6 .u8 := ⟨Tryd.underlying6⟩
instance : Ag Tryd.prog 7 4 := ⟨_, Tryd.underlying7, rfl, by kernel_rfl⟩
instance : FieldAt Tryd.prog 7 0 0 := ⟨_, _, 0, Tryd.underlying7, rfl, rfl, by kernel_rfl⟩
instance : FieldAt Tryd.prog 7 1 1 := ⟨_, _, 0, Tryd.underlying7, rfl, rfl, by kernel_rfl⟩
instance : FieldAt Tryd.prog 7 2 2 := ⟨_, _, 0, Tryd.underlying7, rfl, rfl, by kernel_rfl⟩
instance : FieldAt Tryd.prog 7 3 3 := ⟨_, _, 0, Tryd.underlying7, rfl, rfl, by kernel_rfl⟩
instance : OffsT Tryd.prog 7 [(0, 1), (1, 1), (2, 1), (3, 1)] [.int .i64 0, .int .i64 0, .bool false, .int .u8 0] := ⟨(([(0, 1), (1, 1), (2, 1), (3, 1)] : List (Nat × Nat)).toArray[·]?), fun _ => by kernel_rfl, fun i p h => by simpa using h⟩
instance : ZeroT Tryd.prog 7 [.int .i64 0, .int .i64 0, .bool false, .int .u8 0] := ⟨_, show still Tryd.prog (zeroValue 7) = some (.agg (List.toArray [.int .i64 0, .int .i64 0, .bool false, .int .u8 0])) by kernel_rfl, .agg _⟩
instance : Ag Tryd.prog 8 4 := ⟨_, Tryd.underlying8, rfl, by kernel_rfl⟩
instance : FieldAt Tryd.prog 8 0 0 := ⟨_, _, 0, Tryd.underlying8, rfl, rfl, by kernel_rfl⟩
instance : FieldAt Tryd.prog 8 1 1 := ⟨_, _, 0, Tryd.underlying8, rfl, rfl, by kernel_rfl⟩
instance : FieldAt Tryd.prog 8 2 2 := ⟨_, _, 0, Tryd.underlying8, rfl, rfl, by kernel_rfl⟩
instance : FieldAt Tryd.prog 8 3 3 := ⟨_, _, 0, Tryd.underlying8, rfl, rfl, by kernel_rfl⟩
instance : OffsT Tryd.prog 8 [(0, 1), (1, 1), (2, 1), (3, 1)] [.int .i64 0, .int .i64 0, .bool false, .int .u8 0] := ⟨(([(0, 1), (1, 1), (2, 1), (3, 1)] : List (Nat × Nat)).toArray[·]?), fun _ => by kernel_rfl, fun i p h => by simpa using h⟩
instance : ZeroT Tryd.prog 8 [.int .i64 0, .int .i64 0, .bool false, .int .u8 0] := ⟨_, show still Tryd.prog (zeroValue 8) = some (.agg (List.toArray [.int .i64 0, .int .i64 0, .bool false, .int .u8 0])) by kernel_rfl, .agg _⟩
instance : Sc Tryd.prog 9 := ⟨_, Tryd.underlying9, rfl, by kernel_rfl⟩
instance : ZeroT Tryd.prog 9 [.string .empty] := ⟨.string .empty, by kernel_rfl, .one rfl⟩
instance : StrT Tryd.prog 9 := ⟨Tryd.underlying9⟩
instance : Sc Tryd.prog 10 := ⟨_, Tryd.underlying10, rfl, by kernel_rfl⟩
instance : ZeroT Tryd.prog 10 [.string .empty] := ⟨.string .empty, by kernel_rfl, .one rfl⟩
instance : StrT Tryd.prog 10 := ⟨Tryd.underlying10⟩
instance : Sc Tryd.prog 11 := ⟨_, Tryd.underlying11, rfl, by kernel_rfl⟩
instance : ZeroT Tryd.prog 11 [.string .empty] := ⟨.string .empty, by kernel_rfl, .one rfl⟩
instance : StrT Tryd.prog 11 := ⟨Tryd.underlying11⟩
instance : Sc Tryd.prog 12 := ⟨_, Tryd.underlying12, rfl, by kernel_rfl⟩
instance : ZeroT Tryd.prog 12 [.int .u64 0] := ⟨.int .u64 0, by kernel_rfl, .one rfl⟩
instance : IntT Tryd.prog 12 .u64 := ⟨Tryd.underlying12⟩
instance : Ag Tryd.prog 13 2 := ⟨_, Tryd.underlying13, rfl, by kernel_rfl⟩
instance : FieldAt Tryd.prog 13 0 0 := ⟨_, _, 0, Tryd.underlying13, rfl, rfl, by kernel_rfl⟩
instance : FieldAt Tryd.prog 13 1 1 := ⟨_, _, 0, Tryd.underlying13, rfl, rfl, by kernel_rfl⟩
instance : OffsT Tryd.prog 13 [(0, 1), (1, 1)] [.string .empty, .int .u64 0] := ⟨(([(0, 1), (1, 1)] : List (Nat × Nat)).toArray[·]?), fun _ => by kernel_rfl, fun i p h => by simpa using h⟩
instance : ZeroT Tryd.prog 13 [.string .empty, .int .u64 0] := ⟨_, show still Tryd.prog (zeroValue 13) = some (.agg (List.toArray [.string .empty, .int .u64 0])) by kernel_rfl, .agg _⟩
instance : Ag Tryd.prog 14 2 := ⟨_, Tryd.underlying14, rfl, by kernel_rfl⟩
instance : FieldAt Tryd.prog 14 0 0 := ⟨_, _, 0, Tryd.underlying14, rfl, rfl, by kernel_rfl⟩
instance : FieldAt Tryd.prog 14 1 1 := ⟨_, _, 0, Tryd.underlying14, rfl, rfl, by kernel_rfl⟩
instance : OffsT Tryd.prog 14 [(0, 1), (1, 1)] [.string .empty, .int .u64 0] := ⟨(([(0, 1), (1, 1)] : List (Nat × Nat)).toArray[·]?), fun _ => by kernel_rfl, fun i p h => by simpa using h⟩
instance : ZeroT Tryd.prog 14 [.string .empty, .int .u64 0] := ⟨_, show still Tryd.prog (zeroValue 14) = some (.agg (List.toArray [.string .empty, .int .u64 0])) by kernel_rfl, .agg _⟩
instance : Sc Tryd.prog 15 := ⟨_, Tryd.underlying15, rfl, by kernel_rfl⟩
instance : ZeroT Tryd.prog 15 [.pointer none] := ⟨.pointer none, by kernel_rfl, .one rfl⟩
instance : Sc Tryd.prog 16 := ⟨_, Tryd.underlying16, rfl, by kernel_rfl⟩
instance : ZeroT Tryd.prog 16 [.pointer none] := ⟨.pointer none, by kernel_rfl, .one rfl⟩
instance : Sc Tryd.prog 17 := ⟨_, Tryd.underlying17, rfl, by kernel_rfl⟩
instance : ZeroT Tryd.prog 17 [.pointer none] := ⟨.pointer none, by kernel_rfl, .one rfl⟩
instance : Ag Tryd.prog 18 1 := ⟨_, Tryd.underlying18, rfl, by kernel_rfl⟩
instance : FieldAt Tryd.prog 18 0 0 := ⟨_, _, 0, Tryd.underlying18, rfl, rfl, by kernel_rfl⟩
instance : OffsT Tryd.prog 18 [(0, 1)] [.pointer none] := ⟨(([(0, 1)] : List (Nat × Nat)).toArray[·]?), fun _ => by kernel_rfl, fun i p h => by simpa using h⟩
instance : ZeroT Tryd.prog 18 [.pointer none] := ⟨_, show still Tryd.prog (zeroValue 18) = some (.agg (List.toArray [.pointer none])) by kernel_rfl, .agg _⟩
instance : Ag Tryd.prog 19 1 := ⟨_, Tryd.underlying19, rfl, by kernel_rfl⟩
instance : FieldAt Tryd.prog 19 0 0 := ⟨_, _, 0, Tryd.underlying19, rfl, rfl, by kernel_rfl⟩
instance : OffsT Tryd.prog 19 [(0, 1)] [.pointer none] := ⟨(([(0, 1)] : List (Nat × Nat)).toArray[·]?), fun _ => by kernel_rfl, fun i p h => by simpa using h⟩
instance : ZeroT Tryd.prog 19 [.pointer none] := ⟨_, show still Tryd.prog (zeroValue 19) = some (.agg (List.toArray [.pointer none])) by kernel_rfl, .agg _⟩
instance : Sc Tryd.prog 20 := ⟨_, Tryd.underlying20, rfl, by kernel_rfl⟩
instance : ZeroT Tryd.prog 20 [.nilIface] := ⟨.nilIface, by kernel_rfl, .one rfl⟩
instance : Sc Tryd.prog 21 := ⟨_, Tryd.underlying21, rfl, by kernel_rfl⟩
instance : ZeroT Tryd.prog 21 [.int .i32 0] := ⟨.int .i32 0, by kernel_rfl, .one rfl⟩
instance : IntT Tryd.prog 21 .i32 := ⟨Tryd.underlying21⟩
instance : Ag Tryd.prog 22 5 := ⟨_, Tryd.underlying22, rfl, by kernel_rfl⟩
instance : FieldAt Tryd.prog 22 0 0 := ⟨_, _, 0, Tryd.underlying22, rfl, rfl, by kernel_rfl⟩
instance : FieldAt Tryd.prog 22 1 1 := ⟨_, _, 0, Tryd.underlying22, rfl, rfl, by kernel_rfl⟩
instance : FieldAt Tryd.prog 22 2 2 := ⟨_, _, 0, Tryd.underlying22, rfl, rfl, by kernel_rfl⟩
instance : FieldAt Tryd.prog 22 3 3 := ⟨_, _, 0, Tryd.underlying22, rfl, rfl, by kernel_rfl⟩
instance : FieldAt Tryd.prog 22 4 4 := ⟨_, _, 0, Tryd.underlying22, rfl, rfl, by kernel_rfl⟩
instance : OffsT Tryd.prog 22 [(0, 1), (1, 1), (2, 1), (3, 1), (4, 1)] [.int .i64 0, .int .i64 0, .string .empty, .string .empty, .string .empty] := ⟨(([(0, 1), (1, 1), (2, 1), (3, 1), (4, 1)] : List (Nat × Nat)).toArray[·]?), fun _ => by kernel_rfl, fun i p h => by simpa using h⟩
instance : ZeroT Tryd.prog 22 [.int .i64 0, .int .i64 0, .string .empty, .string .empty, .string .empty] := ⟨_, show still Tryd.prog (zeroValue 22) = some (.agg (List.toArray [.int .i64 0, .int .i64 0, .string .empty, .string .empty, .string .empty])) by kernel_rfl, .agg _⟩
instance : Ag Tryd.prog 23 5 := ⟨_, Tryd.underlying23, rfl, by kernel_rfl⟩
instance : FieldAt Tryd.prog 23 0 0 := ⟨_, _, 0, Tryd.underlying23, rfl, rfl, by kernel_rfl⟩
instance : FieldAt Tryd.prog 23 1 1 := ⟨_, _, 0, Tryd.underlying23, rfl, rfl, by kernel_rfl⟩
instance : FieldAt Tryd.prog 23 2 2 := ⟨_, _, 0, Tryd.underlying23, rfl, rfl, by kernel_rfl⟩
instance : FieldAt Tryd.prog 23 3 3 := ⟨_, _, 0, Tryd.underlying23, rfl, rfl, by kernel_rfl⟩
instance : FieldAt Tryd.prog 23 4 4 := ⟨_, _, 0, Tryd.underlying23, rfl, rfl, by kernel_rfl⟩
instance : OffsT Tryd.prog 23 [(0, 1), (1, 1), (2, 1), (3, 1), (4, 1)] [.int .i64 0, .int .i64 0, .string .empty, .string .empty, .string .empty] := ⟨(([(0, 1), (1, 1), (2, 1), (3, 1), (4, 1)] : List (Nat × Nat)).toArray[·]?), fun _ => by kernel_rfl, fun i p h => by simpa using h⟩
instance : ZeroT Tryd.prog 23 [.int .i64 0, .int .i64 0, .string .empty, .string .empty, .string .empty] := ⟨_, show still Tryd.prog (zeroValue 23) = some (.agg (List.toArray [.int .i64 0, .int .i64 0, .string .empty, .string .empty, .string .empty])) by kernel_rfl, .agg _⟩
instance : Sc Tryd.prog 24 := ⟨_, Tryd.underlying24, rfl, by kernel_rfl⟩
instance : ZeroT Tryd.prog 24 [.slice none 0 0] := ⟨.slice none 0 0, by kernel_rfl, .one rfl⟩
instance : SliceT Tryd.prog 24 3 1 8 := ⟨Tryd.underlying24, by decide, by decide, .int .i64 0, by kernel_rfl, by kernel_rfl⟩
instance : Sc Tryd.prog 25 := ⟨_, Tryd.underlying25, rfl, by kernel_rfl⟩
instance : ZeroT Tryd.prog 25 [.slice none 0 0] := ⟨.slice none 0 0, by kernel_rfl, .one rfl⟩
instance : SliceT Tryd.prog 25 35 6 80 := ⟨Tryd.underlying25, by decide, by decide, .agg #[.int .i64 0, .int .i64 0, .int .i64 0, .string .empty, .slice none 0 0, .string .empty], by kernel_rfl, by kernel_rfl⟩
instance : Sc Tryd.prog 26 := ⟨_, Tryd.underlying26, rfl, by kernel_rfl⟩
instance : ZeroT Tryd.prog 26 [.int .i64 0] := ⟨.int .i64 0, by kernel_rfl, .one rfl⟩
instance : IntT Tryd.prog 26 .i64 := ⟨Tryd.underlying26⟩
instance : Sc Tryd.prog 28 := ⟨_, Tryd.underlying28, rfl, by kernel_rfl⟩
instance : ZeroT Tryd.prog 28 [.nilFunc] := ⟨.nilFunc, by kernel_rfl, .one rfl⟩
instance : Sc Tryd.prog 29 := ⟨_, Tryd.underlying29, rfl, by kernel_rfl⟩
instance : ZeroT Tryd.prog 29 [.nilFunc] := ⟨.nilFunc, by kernel_rfl, .one rfl⟩
instance : Sc Tryd.prog 31 := ⟨_, Tryd.underlying31, rfl, by kernel_rfl⟩
instance : ZeroT Tryd.prog 31 [.nilFunc] := ⟨.nilFunc, by kernel_rfl, .one rfl⟩
instance : Sc Tryd.prog 32 := ⟨_, Tryd.underlying32, rfl, by kernel_rfl⟩
instance : ZeroT Tryd.prog 32 [.nilFunc] := ⟨.nilFunc, by kernel_rfl, .one rfl⟩
instance : Sc Tryd.prog 33 := ⟨_, Tryd.underlying33, rfl, by kernel_rfl⟩
instance : ZeroT Tryd.prog 33 [.nilFunc] := ⟨.nilFunc, by kernel_rfl, .one rfl⟩
instance : Ag Tryd.prog 34 6 := ⟨_, Tryd.underlying34, rfl, by kernel_rfl⟩
instance : FieldAt Tryd.prog 34 0 0 := ⟨_, _, 0, Tryd.underlying34, rfl, rfl, by kernel_rfl⟩
instance : FieldAt Tryd.prog 34 1 1 := ⟨_, _, 0, Tryd.underlying34, rfl, rfl, by kernel_rfl⟩
instance : FieldAt Tryd.prog 34 2 2 := ⟨_, _, 0, Tryd.underlying34, rfl, rfl, by kernel_rfl⟩
instance : FieldAt Tryd.prog 34 3 3 := ⟨_, _, 0, Tryd.underlying34, rfl, rfl, by kernel_rfl⟩
instance : FieldAt Tryd.prog 34 4 4 := ⟨_, _, 0, Tryd.underlying34, rfl, rfl, by kernel_rfl⟩
instance : FieldAt Tryd.prog 34 5 5 := ⟨_, _, 0, Tryd.underlying34, rfl, rfl, by kernel_rfl⟩
instance : OffsT Tryd.prog 34 [(0, 1), (1, 1), (2, 1), (3, 1), (4, 1), (5, 1)] [.int .i64 0, .int .i64 0, .int .i64 0, .string .empty, .slice none 0 0, .string .empty] := ⟨(([(0, 1), (1, 1), (2, 1), (3, 1), (4, 1), (5, 1)] : List (Nat × Nat)).toArray[·]?), fun _ => by kernel_rfl, fun i p h => by simpa using h⟩
instance : ZeroT Tryd.prog 34 [.int .i64 0, .int .i64 0, .int .i64 0, .string .empty, .slice none 0 0, .string .empty] := ⟨_, show still Tryd.prog (zeroValue 34) = some (.agg (List.toArray [.int .i64 0, .int .i64 0, .int .i64 0, .string .empty, .slice none 0 0, .string .empty])) by kernel_rfl, .agg _⟩
instance : Ag Tryd.prog 35 6 := ⟨_, Tryd.underlying35, rfl, by kernel_rfl⟩
instance : FieldAt Tryd.prog 35 0 0 := ⟨_, _, 0, Tryd.underlying35, rfl, rfl, by kernel_rfl⟩
instance : FieldAt Tryd.prog 35 1 1 := ⟨_, _, 0, Tryd.underlying35, rfl, rfl, by kernel_rfl⟩
instance : FieldAt Tryd.prog 35 2 2 := ⟨_, _, 0, Tryd.underlying35, rfl, rfl, by kernel_rfl⟩
instance : FieldAt Tryd.prog 35 3 3 := ⟨_, _, 0, Tryd.underlying35, rfl, rfl, by kernel_rfl⟩
instance : FieldAt Tryd.prog 35 4 4 := ⟨_, _, 0, Tryd.underlying35, rfl, rfl, by kernel_rfl⟩
instance : FieldAt Tryd.prog 35 5 5 := ⟨_, _, 0, Tryd.underlying35, rfl, rfl, by kernel_rfl⟩
instance : OffsT Tryd.prog 35 [(0, 1), (1, 1), (2, 1), (3, 1), (4, 1), (5, 1)] [.int .i64 0, .int .i64 0, .int .i64 0, .string .empty, .slice none 0 0, .string .empty] := ⟨(([(0, 1), (1, 1), (2, 1), (3, 1), (4, 1), (5, 1)] : List (Nat × Nat)).toArray[·]?), fun _ => by kernel_rfl, fun i p h => by simpa using h⟩
instance : ZeroT Tryd.prog 35 [.int .i64 0, .int .i64 0, .int .i64 0, .string .empty, .slice none 0 0, .string .empty] := ⟨_, show still Tryd.prog (zeroValue 35) = some (.agg (List.toArray [.int .i64 0, .int .i64 0, .int .i64 0, .string .empty, .slice none 0 0, .string .empty])) by kernel_rfl, .agg _⟩
instance : Sc Tryd.prog 37 := ⟨_, Tryd.underlying37, rfl, by kernel_rfl⟩
instance : ZeroT Tryd.prog 37 [.nilFunc] := ⟨.nilFunc, by kernel_rfl, .one rfl⟩
instance : Sc Tryd.prog 38 := ⟨_, Tryd.underlying38, rfl, by kernel_rfl⟩
instance : ZeroT Tryd.prog 38 [.nilFunc] := ⟨.nilFunc, by kernel_rfl, .one rfl⟩
instance : Sc Tryd.prog 39 := ⟨_, Tryd.underlying39, rfl, by kernel_rfl⟩
instance : ZeroT Tryd.prog 39 [.nilFunc] := ⟨.nilFunc, by kernel_rfl, .one rfl⟩
instance : Ag Tryd.prog 40 5 := ⟨_, Tryd.underlying40, rfl, by kernel_rfl⟩
instance : FieldAt Tryd.prog 40 0 0 := ⟨_, _, 0, Tryd.underlying40, rfl, rfl, by kernel_rfl⟩
instance : FieldAt Tryd.prog 40 1 1 := ⟨_, _, 0, Tryd.underlying40, rfl, rfl, by kernel_rfl⟩
instance : FieldAt Tryd.prog 40 2 2 := ⟨_, _, 0, Tryd.underlying40, rfl, rfl, by kernel_rfl⟩
instance : FieldAt Tryd.prog 40 3 3 := ⟨_, _, 0, Tryd.underlying40, rfl, rfl, by kernel_rfl⟩
instance : FieldAt Tryd.prog 40 4 4 := ⟨_, _, 0, Tryd.underlying40, rfl, rfl, by kernel_rfl⟩
instance : OffsT Tryd.prog 40 [(0, 1), (1, 1), (2, 1), (3, 1), (4, 1)] [.int .i64 0, .int .i64 0, .int .i64 0, .int .i64 0, .bool false] := ⟨(([(0, 1), (1, 1), (2, 1), (3, 1), (4, 1)] : List (Nat × Nat)).toArray[·]?), fun _ => by kernel_rfl, fun i p h => by simpa using h⟩
instance : ZeroT Tryd.prog 40 [.int .i64 0, .int .i64 0, .int .i64 0, .int .i64 0, .bool false] := ⟨_, show still Tryd.prog (zeroValue 40) = some (.agg (List.toArray [.int .i64 0, .int .i64 0, .int .i64 0, .int .i64 0, .bool false])) by kernel_rfl, .agg _⟩
instance : Ag Tryd.prog 41 5 := ⟨_, Tryd.underlying41, rfl, by kernel_rfl⟩
instance : FieldAt Tryd.prog 41 0 0 := ⟨_, _, 0, Tryd.underlying41, rfl, rfl, by kernel_rfl⟩
instance : FieldAt Tryd.prog 41 1 1 := ⟨_, _, 0, Tryd.underlying41, rfl, rfl, by kernel_rfl⟩
instance : FieldAt Tryd.prog 41 2 2 := ⟨_, _, 0, Tryd.underlying41, rfl, rfl, by kernel_rfl⟩
instance : FieldAt Tryd.prog 41 3 3 := ⟨_, _, 0, Tryd.underlying41, rfl, rfl, by kernel_rfl⟩
instance : FieldAt Tryd.prog 41 4 4 := ⟨_, _, 0, Tryd.underlying41, rfl, rfl, by kernel_rfl⟩
instance : OffsT Tryd.prog 41 [(0, 1), (1, 1), (2, 1), (3, 1), (4, 1)] [.int .i64 0, .int .i64 0, .int .i64 0, .int .i64 0, .bool false] := ⟨(([(0, 1), (1, 1), (2, 1), (3, 1), (4, 1)] : List (Nat × Nat)).toArray[·]?), fun _ => by kernel_rfl, fun i p h => by simpa using h⟩
instance : ZeroT Tryd.prog 41 [.int .i64 0, .int .i64 0, .int .i64 0, .int .i64 0, .bool false] := ⟨_, show still Tryd.prog (zeroValue 41) = some (.agg (List.toArray [.int .i64 0, .int .i64 0, .int .i64 0, .int .i64 0, .bool false])) by kernel_rfl, .agg _⟩
instance : Sc Tryd.prog 43 := ⟨_, Tryd.underlying43, rfl, by kernel_rfl⟩
instance : ZeroT Tryd.prog 43 [.nilFunc] := ⟨.nilFunc, by kernel_rfl, .one rfl⟩
instance : Sc Tryd.prog 45 := ⟨_, Tryd.underlying45, rfl, by kernel_rfl⟩
instance : ZeroT Tryd.prog 45 [.nilFunc] := ⟨.nilFunc, by kernel_rfl, .one rfl⟩
instance : Sc Tryd.prog 46 := ⟨_, Tryd.underlying46, rfl, by kernel_rfl⟩
instance : ZeroT Tryd.prog 46 [.nilFunc] := ⟨.nilFunc, by kernel_rfl, .one rfl⟩
instance : Sc Tryd.prog 47 := ⟨_, Tryd.underlying47, rfl, by kernel_rfl⟩
instance : ZeroT Tryd.prog 47 [.slice none 0 0] := ⟨.slice none 0 0, by kernel_rfl, .one rfl⟩
instance : SliceT Tryd.prog 47 121 4 40 := ⟨Tryd.underlying47, by decide, by decide, .agg #[.string .empty, .string .empty, .bool false, .bool false], by kernel_rfl, by kernel_rfl⟩
instance : Sc Tryd.prog 48 := ⟨_, Tryd.underlying48, rfl, by kernel_rfl⟩
instance : ZeroT Tryd.prog 48 [.nilFunc] := ⟨.nilFunc, by kernel_rfl, .one rfl⟩
instance : Sc Tryd.prog 49 := ⟨_, Tryd.underlying49, rfl, by kernel_rfl⟩
instance : ZeroT Tryd.prog 49 [.nilFunc] := ⟨.nilFunc, by kernel_rfl, .one rfl⟩
instance : Sc Tryd.prog 50 := ⟨_, Tryd.underlying50, rfl, by kernel_rfl⟩
instance : ZeroT Tryd.prog 50 [.slice none 0 0] := ⟨.slice none 0 0, by kernel_rfl, .one rfl⟩
instance : SliceT Tryd.prog 50 9 1 16 := ⟨Tryd.underlying50, by decide, by decide, .string .empty, by kernel_rfl, by kernel_rfl⟩
instance : Sc Tryd.prog 51 := ⟨_, Tryd.underlying51, rfl, by kernel_rfl⟩
instance : ZeroT Tryd.prog 51 [.int .u64 0] := ⟨.int .u64 0, by kernel_rfl, .one rfl⟩
instance : IntT Tryd.prog 51 .u64 := ⟨Tryd.underlying51⟩
instance : Ag Tryd.prog 52 4 := ⟨_, Tryd.underlying52, rfl, by kernel_rfl⟩
instance : ArrT Tryd.prog 52 4 51 1 := ⟨Tryd.underlying52, by kernel_rfl⟩
instance : OffsT Tryd.prog 52 (arrOffs 4 1) [.int .u64 0, .int .u64 0, .int .u64 0, .int .u64 0] := ⟨fun i => some (i * 1, 1), fun _ => by kernel_rfl, arrOffs_at 4 1⟩
instance : ZeroT Tryd.prog 52 [.int .u64 0, .int .u64 0, .int .u64 0, .int .u64 0] := ⟨_, show still Tryd.prog (zeroValue 52) = some (.agg (List.toArray [.int .u64 0, .int .u64 0, .int .u64 0, .int .u64 0])) by kernel_rfl, .agg _⟩
instance : Ag Tryd.prog 53 8 := ⟨_, Tryd.underlying53, rfl, by kernel_rfl⟩
instance : FieldAt Tryd.prog 53 0 0 := ⟨_, _, 3, Tryd.underlying53, rfl, rfl, by kernel_rfl⟩
instance : FieldAt Tryd.prog 53 1 4 := ⟨_, _, 3, Tryd.underlying53, rfl, rfl, by kernel_rfl⟩
instance : OffsT Tryd.prog 53 [(0, 4), (4, 4)] [.int .u64 0, .int .u64 0, .int .u64 0, .int .u64 0, .int .u64 0, .int .u64 0, .int .u64 0, .int .u64 0] := ⟨(([(0, 4), (4, 4)] : List (Nat × Nat)).toArray[·]?), fun _ => by kernel_rfl, fun i p h => by simpa using h⟩
instance : ZeroT Tryd.prog 53 [.int .u64 0, .int .u64 0, .int .u64 0, .int .u64 0, .int .u64 0, .int .u64 0, .int .u64 0, .int .u64 0] := ⟨_, show still Tryd.prog (zeroValue 53) = some (.agg (List.toArray [.int .u64 0, .int .u64 0, .int .u64 0, .int .u64 0, .int .u64 0, .int .u64 0, .int .u64 0, .int .u64 0])) by kernel_rfl, .agg _⟩
instance : Ag Tryd.prog 54 8 := ⟨_, Tryd.underlying54, rfl, by kernel_rfl⟩
instance : FieldAt Tryd.prog 54 0 0 := ⟨_, _, 3, Tryd.underlying54, rfl, rfl, by kernel_rfl⟩
instance : FieldAt Tryd.prog 54 1 4 := ⟨_, _, 3, Tryd.underlying54, rfl, rfl, by kernel_rfl⟩
instance : OffsT Tryd.prog 54 [(0, 4), (4, 4)] [.int .u64 0, .int .u64 0, .int .u64 0, .int .u64 0, .int .u64 0, .int .u64 0, .int .u64 0, .int .u64 0] := ⟨(([(0, 4), (4, 4)] : List (Nat × Nat)).toArray[·]?), fun _ => by kernel_rfl, fun i p h => by simpa using h⟩
instance : ZeroT Tryd.prog 54 [.int .u64 0, .int .u64 0, .int .u64 0, .int .u64 0, .int .u64 0, .int .u64 0, .int .u64 0, .int .u64 0] := ⟨_, show still Tryd.prog (zeroValue 54) = some (.agg (List.toArray [.int .u64 0, .int .u64 0, .int .u64 0, .int .u64 0, .int .u64 0, .int .u64 0, .int .u64 0, .int .u64 0])) by kernel_rfl, .agg _⟩
instance : Ag Tryd.prog 55 5 := ⟨_, Tryd.underlying55, rfl, by kernel_rfl⟩
instance : FieldAt Tryd.prog 55 0 0 := ⟨_, _, 0, Tryd.underlying55, rfl, rfl, by kernel_rfl⟩
instance : FieldAt Tryd.prog 55 1 1 := ⟨_, _, 0, Tryd.underlying55, rfl, rfl, by kernel_rfl⟩
instance : FieldAt Tryd.prog 55 2 2 := ⟨_, _, 0, Tryd.underlying55, rfl, rfl, by kernel_rfl⟩
instance : FieldAt Tryd.prog 55 3 3 := ⟨_, _, 0, Tryd.underlying55, rfl, rfl, by kernel_rfl⟩
instance : FieldAt Tryd.prog 55 4 4 := ⟨_, _, 0, Tryd.underlying55, rfl, rfl, by kernel_rfl⟩
instance : OffsT Tryd.prog 55 [(0, 1), (1, 1), (2, 1), (3, 1), (4, 1)] [.int .i64 0, .int .i64 0, .int .i64 0, .string .empty, .bool false] := ⟨(([(0, 1), (1, 1), (2, 1), (3, 1), (4, 1)] : List (Nat × Nat)).toArray[·]?), fun _ => by kernel_rfl, fun i p h => by simpa using h⟩
instance : ZeroT Tryd.prog 55 [.int .i64 0, .int .i64 0, .int .i64 0, .string .empty, .bool false] := ⟨_, show still Tryd.prog (zeroValue 55) = some (.agg (List.toArray [.int .i64 0, .int .i64 0, .int .i64 0, .string .empty, .bool false])) by kernel_rfl, .agg _⟩
instance : Ag Tryd.prog 56 5 := ⟨_, Tryd.underlying56, rfl, by kernel_rfl⟩
instance : FieldAt Tryd.prog 56 0 0 := ⟨_, _, 0, Tryd.underlying56, rfl, rfl, by kernel_rfl⟩
instance : FieldAt Tryd.prog 56 1 1 := ⟨_, _, 0, Tryd.underlying56, rfl, rfl, by kernel_rfl⟩
instance : FieldAt Tryd.prog 56 2 2 := ⟨_, _, 0, Tryd.underlying56, rfl, rfl, by kernel_rfl⟩
instance : FieldAt Tryd.prog 56 3 3 := ⟨_, _, 0, Tryd.underlying56, rfl, rfl, by kernel_rfl⟩
instance : FieldAt Tryd.prog 56 4 4 := ⟨_, _, 0, Tryd.underlying56, rfl, rfl, by kernel_rfl⟩
instance : OffsT Tryd.prog 56 [(0, 1), (1, 1), (2, 1), (3, 1), (4, 1)] [.int .i64 0, .int .i64 0, .int .i64 0, .string .empty, .bool false] := ⟨(([(0, 1), (1, 1), (2, 1), (3, 1), (4, 1)] : List (Nat × Nat)).toArray[·]?), fun _ => by kernel_rfl, fun i p h => by simpa using h⟩
instance : ZeroT Tryd.prog 56 [.int .i64 0, .int .i64 0, .int .i64 0, .string .empty, .bool false] := ⟨_, show still Tryd.prog (zeroValue 56) = some (.agg (List.toArray [.int .i64 0, .int .i64 0, .int .i64 0, .string .empty, .bool false])) by kernel_rfl, .agg _⟩
instance : Sc Tryd.prog 57 := ⟨_, Tryd.underlying57, rfl, by kernel_rfl⟩
instance : ZeroT Tryd.prog 57 [.slice none 0 0] := ⟨.slice none 0 0, by kernel_rfl, .one rfl⟩
instance : SliceT Tryd.prog 57 170 4 32 := ⟨Tryd.underlying57, by decide, by decide, .agg #[.int .i64 0, .int .i64 0, .int .i64 0, .int .i64 0], by kernel_rfl, by kernel_rfl⟩
instance : Ag Tryd.prog 58 3 := ⟨_, Tryd.underlying58, rfl, by kernel_rfl⟩
instance : FieldAt Tryd.prog 58 0 0 := ⟨_, _, 0, Tryd.underlying58, rfl, rfl, by kernel_rfl⟩
instance : FieldAt Tryd.prog 58 1 1 := ⟨_, _, 0, Tryd.underlying58, rfl, rfl, by kernel_rfl⟩
instance : FieldAt Tryd.prog 58 2 2 := ⟨_, _, 0, Tryd.underlying58, rfl, rfl, by kernel_rfl⟩
instance : OffsT Tryd.prog 58 [(0, 1), (1, 1), (2, 1)] [.int .i64 0, .int .i64 0, .slice none 0 0] := ⟨(([(0, 1), (1, 1), (2, 1)] : List (Nat × Nat)).toArray[·]?), fun _ => by kernel_rfl, fun i p h => by simpa using h⟩
instance : ZeroT Tryd.prog 58 [.int .i64 0, .int .i64 0, .slice none 0 0] := ⟨_, show still Tryd.prog (zeroValue 58) = some (.agg (List.toArray [.int .i64 0, .int .i64 0, .slice none 0 0])) by kernel_rfl, .agg _⟩
instance : Ag Tryd.prog 59 3 := ⟨_, Tryd.underlying59, rfl, by kernel_rfl⟩
instance : FieldAt Tryd.prog 59 0 0 := ⟨_, _, 0, Tryd.underlying59, rfl, rfl, by kernel_rfl⟩
instance : FieldAt Tryd.prog 59 1 1 := ⟨_, _, 0, Tryd.underlying59, rfl, rfl, by kernel_rfl⟩
instance : FieldAt Tryd.prog 59 2 2 := ⟨_, _, 0, Tryd.underlying59, rfl, rfl, by kernel_rfl⟩
instance : OffsT Tryd.prog 59 [(0, 1), (1, 1), (2, 1)] [.int .i64 0, .int .i64 0, .slice none 0 0] := ⟨(([(0, 1), (1, 1), (2, 1)] : List (Nat × Nat)).toArray[·]?), fun _ => by kernel_rfl, fun i p h => by simpa using h⟩
instance : ZeroT Tryd.prog 59 [.int .i64 0, .int .i64 0, .slice none 0 0] := ⟨_, show still Tryd.prog (zeroValue 59) = some (.agg (List.toArray [.int .i64 0, .int .i64 0, .slice none 0 0])) by kernel_rfl, .agg _⟩
instance : Ag Tryd.prog 60 3 := ⟨_, Tryd.underlying60, rfl, by kernel_rfl⟩
instance : FieldAt Tryd.prog 60 0 0 := ⟨_, _, 0, Tryd.underlying60, rfl, rfl, by kernel_rfl⟩
instance : FieldAt Tryd.prog 60 1 1 := ⟨_, _, 0, Tryd.underlying60, rfl, rfl, by kernel_rfl⟩
instance : FieldAt Tryd.prog 60 2 2 := ⟨_, _, 0, Tryd.underlying60, rfl, rfl, by kernel_rfl⟩
instance : OffsT Tryd.prog 60 [(0, 1), (1, 1), (2, 1)] [.int .i64 0, .int .i64 0, .int .i64 0] := ⟨(([(0, 1), (1, 1), (2, 1)] : List (Nat × Nat)).toArray[·]?), fun _ => by kernel_rfl, fun i p h => by simpa using h⟩
instance : ZeroT Tryd.prog 60 [.int .i64 0, .int .i64 0, .int .i64 0] := ⟨_, show still Tryd.prog (zeroValue 60) = some (.agg (List.toArray [.int .i64 0, .int .i64 0, .int .i64 0])) by kernel_rfl, .agg _⟩
instance : Ag Tryd.prog 61 3 := ⟨_, Tryd.underlying61, rfl, by kernel_rfl⟩
instance : FieldAt Tryd.prog 61 0 0 := ⟨_, _, 0, Tryd.underlying61, rfl, rfl, by kernel_rfl⟩
instance : FieldAt Tryd.prog 61 1 1 := ⟨_, _, 0, Tryd.underlying61, rfl, rfl, by kernel_rfl⟩
instance : FieldAt Tryd.prog 61 2 2 := ⟨_, _, 0, Tryd.underlying61, rfl, rfl, by kernel_rfl⟩
instance : OffsT Tryd.prog 61 [(0, 1), (1, 1), (2, 1)] [.int .i64 0, .int .i64 0, .int .i64 0] := ⟨(([(0, 1), (1, 1), (2, 1)] : List (Nat × Nat)).toArray[·]?), fun _ => by kernel_rfl, fun i p h => by simpa using h⟩
instance : ZeroT Tryd.prog 61 [.int .i64 0, .int .i64 0, .int .i64 0] := ⟨_, show still Tryd.prog (zeroValue 61) = some (.agg (List.toArray [.int .i64 0, .int .i64 0, .int .i64 0])) by kernel_rfl, .agg _⟩
instance : Ag Tryd.prog 62 4 := ⟨_, Tryd.underlying62, rfl, by kernel_rfl⟩
instance : FieldAt Tryd.prog 62 0 0 := ⟨_, _, 3, Tryd.underlying62, rfl, rfl, by kernel_rfl⟩
instance : OffsT Tryd.prog 62 [(0, 4)] [.int .u64 0, .int .u64 0, .int .u64 0, .int .u64 0] := ⟨(([(0, 4)] : List (Nat × Nat)).toArray[·]?), fun _ => by kernel_rfl, fun i p h => by simpa using h⟩
instance : ZeroT Tryd.prog 62 [.int .u64 0, .int .u64 0, .int .u64 0, .int .u64 0] := ⟨_, show still Tryd.prog (zeroValue 62) = some (.agg (List.toArray [.int .u64 0, .int .u64 0, .int .u64 0, .int .u64 0])) by kernel_rfl, .agg _⟩
instance : Ag Tryd.prog 63 4 := ⟨_, Tryd.underlying63, rfl, by kernel_rfl⟩
instance : FieldAt Tryd.prog 63 0 0 := ⟨_, _, 3, Tryd.underlying63, rfl, rfl, by kernel_rfl⟩
instance : OffsT Tryd.prog 63 [(0, 4)] [.int .u64 0, .int .u64 0, .int .u64 0, .int .u64 0] := ⟨(([(0, 4)] : List (Nat × Nat)).toArray[·]?), fun _ => by kernel_rfl, fun i p h => by simpa using h⟩
instance : ZeroT Tryd.prog 63 [.int .u64 0, .int .u64 0, .int .u64 0, .int .u64 0] := ⟨_, show still Tryd.prog (zeroValue 63) = some (.agg (List.toArray [.int .u64 0, .int .u64 0, .int .u64 0, .int .u64 0])) by kernel_rfl, .agg _⟩
instance : Ag Tryd.prog 64 2 := ⟨_, Tryd.underlying64, rfl, by kernel_rfl⟩
instance : ArrT Tryd.prog 64 2 3 1 := ⟨Tryd.underlying64, by kernel_rfl⟩
instance : OffsT Tryd.prog 64 (arrOffs 2 1) [.int .i64 0, .int .i64 0] := ⟨fun i => some (i * 1, 1), fun _ => by kernel_rfl, arrOffs_at 2 1⟩
instance : ZeroT Tryd.prog 64 [.int .i64 0, .int .i64 0] := ⟨_, show still Tryd.prog (zeroValue 64) = some (.agg (List.toArray [.int .i64 0, .int .i64 0])) by kernel_rfl, .agg _⟩
instance : Ag Tryd.prog 65 9 := ⟨_, Tryd.underlying65, rfl, by kernel_rfl⟩
instance : FieldAt Tryd.prog 65 0 0 := ⟨_, _, 0, Tryd.underlying65, rfl, rfl, by kernel_rfl⟩
instance : FieldAt Tryd.prog 65 1 1 := ⟨_, _, 0, Tryd.underlying65, rfl, rfl, by kernel_rfl⟩
instance : FieldAt Tryd.prog 65 2 2 := ⟨_, _, 2, Tryd.underlying65, rfl, rfl, by kernel_rfl⟩
instance : FieldAt Tryd.prog 65 3 5 := ⟨_, _, 0, Tryd.underlying65, rfl, rfl, by kernel_rfl⟩
instance : FieldAt Tryd.prog 65 4 6 := ⟨_, _, 1, Tryd.underlying65, rfl, rfl, by kernel_rfl⟩
instance : FieldAt Tryd.prog 65 5 8 := ⟨_, _, 0, Tryd.underlying65, rfl, rfl, by kernel_rfl⟩
instance : OffsT Tryd.prog 65 [(0, 1), (1, 1), (2, 3), (5, 1), (6, 2), (8, 1)] [.int .i64 0, .int .i64 0, .int .i64 0, .int .i64 0, .int .i64 0, .bool false, .int .i64 0, .int .i64 0, .int .i64 0] := ⟨(([(0, 1), (1, 1), (2, 3), (5, 1), (6, 2), (8, 1)] : List (Nat × Nat)).toArray[·]?), fun _ => by kernel_rfl, fun i p h => by simpa using h⟩
instance : ZeroT Tryd.prog 65 [.int .i64 0, .int .i64 0, .int .i64 0, .int .i64 0, .int .i64 0, .bool false, .int .i64 0, .int .i64 0, .int .i64 0] := ⟨_, show still Tryd.prog (zeroValue 65) = some (.agg (List.toArray [.int .i64 0, .int .i64 0, .int .i64 0, .int .i64 0, .int .i64 0, .bool false, .int .i64 0, .int .i64 0, .int .i64 0])) by kernel_rfl, .agg _⟩
instance : Ag Tryd.prog 66 9 := ⟨_, Tryd.underlying66, rfl, by kernel_rfl⟩
instance : FieldAt Tryd.prog 66 0 0 := ⟨_, _, 0, Tryd.underlying66, rfl, rfl, by kernel_rfl⟩
instance : FieldAt Tryd.prog 66 1 1 := ⟨_, _, 0, Tryd.underlying66, rfl, rfl, by kernel_rfl⟩
instance : FieldAt Tryd.prog 66 2 2 := ⟨_, _, 2, Tryd.underlying66, rfl, rfl, by kernel_rfl⟩
instance : FieldAt Tryd.prog 66 3 5 := ⟨_, _, 0, Tryd.underlying66, rfl, rfl, by kernel_rfl⟩
instance : FieldAt Tryd.prog 66 4 6 := ⟨_, _, 1, Tryd.underlying66, rfl, rfl, by kernel_rfl⟩
instance : FieldAt Tryd.prog 66 5 8 := ⟨_, _, 0, Tryd.underlying66, rfl, rfl, by kernel_rfl⟩
instance : OffsT Tryd.prog 66 [(0, 1), (1, 1), (2, 3), (5, 1), (6, 2), (8, 1)] [.int .i64 0, .int .i64 0, .int .i64 0, .int .i64 0, .int .i64 0, .bool false, .int .i64 0, .int .i64 0, .int .i64 0] := ⟨(([(0, 1), (1, 1), (2, 3), (5, 1), (6, 2), (8, 1)] : List (Nat × Nat)).toArray[·]?), fun _ => by kernel_rfl, fun i p h => by simpa using h⟩
instance : ZeroT Tryd.prog 66 [.int .i64 0, .int .i64 0, .int .i64 0, .int .i64 0, .int .i64 0, .bool false, .int .i64 0, .int .i64 0, .int .i64 0] := ⟨_, show still Tryd.prog (zeroValue 66) = some (.agg (List.toArray [.int .i64 0, .int .i64 0, .int .i64 0, .int .i64 0, .int .i64 0, .bool false, .int .i64 0, .int .i64 0, .int .i64 0])) by kernel_rfl, .agg _⟩
instance : Sc Tryd.prog 67 := ⟨_, Tryd.underlying67, rfl, by kernel_rfl⟩
instance : ZeroT Tryd.prog 67 [.slice none 0 0] := ⟨.slice none 0 0, by kernel_rfl, .one rfl⟩
instance : SliceT Tryd.prog 67 167 1 24 := ⟨Tryd.underlying67, by decide, by decide, .agg #[.slice none 0 0], by kernel_rfl, by kernel_rfl⟩
instance : Ag Tryd.prog 68 33 := ⟨_, Tryd.underlying68, rfl, by kernel_rfl⟩
instance : FieldAt Tryd.prog 68 0 0 := ⟨_, _, 2, Tryd.underlying68, rfl, rfl, by kernel_rfl⟩
instance : FieldAt Tryd.prog 68 1 3 := ⟨_, _, 0, Tryd.underlying68, rfl, rfl, by kernel_rfl⟩
instance : FieldAt Tryd.prog 68 2 4 := ⟨_, _, 0, Tryd.underlying68, rfl, rfl, by kernel_rfl⟩
instance : FieldAt Tryd.prog 68 3 5 := ⟨_, _, 0, Tryd.underlying68, rfl, rfl, by kernel_rfl⟩
instance : FieldAt Tryd.prog 68 4 6 := ⟨_, _, 0, Tryd.underlying68, rfl, rfl, by kernel_rfl⟩
instance : FieldAt Tryd.prog 68 5 7 := ⟨_, _, 0, Tryd.underlying68, rfl, rfl, by kernel_rfl⟩
instance : FieldAt Tryd.prog 68 6 8 := ⟨_, _, 2, Tryd.underlying68, rfl, rfl, by kernel_rfl⟩
instance : FieldAt Tryd.prog 68 7 11 := ⟨_, _, 0, Tryd.underlying68, rfl, rfl, by kernel_rfl⟩
instance : FieldAt Tryd.prog 68 8 12 := ⟨_, _, 3, Tryd.underlying68, rfl, rfl, by kernel_rfl⟩
instance : FieldAt Tryd.prog 68 9 16 := ⟨_, _, 1, Tryd.underlying68, rfl, rfl, by kernel_rfl⟩
instance : FieldAt Tryd.prog 68 10 18 := ⟨_, _, 0, Tryd.underlying68, rfl, rfl, by kernel_rfl⟩
instance : FieldAt Tryd.prog 68 11 19 := ⟨_, _, 8, Tryd.underlying68, rfl, rfl, by kernel_rfl⟩
instance : FieldAt Tryd.prog 68 12 28 := ⟨_, _, 2, Tryd.underlying68, rfl, rfl, by kernel_rfl⟩
instance : FieldAt Tryd.prog 68 13 31 := ⟨_, _, 0, Tryd.underlying68, rfl, rfl, by kernel_rfl⟩
instance : FieldAt Tryd.prog 68 14 32 := ⟨_, _, 0, Tryd.underlying68, rfl, rfl, by kernel_rfl⟩
instance : OffsT Tryd.prog 68 [(0, 3), (3, 1), (4, 1), (5, 1), (6, 1), (7, 1), (8, 3), (11, 1), (12, 4), (16, 2), (18, 1), (19, 9), (28, 3), (31, 1), (32, 1)] [.int .i64 0, .int .i64 0, .slice none 0 0, .int .i64 0, .int .i64 0, .bool false, .int .i64 0, .int .i64 0, .int .i64 0, .int .i64 0, .int .i64 0, .int .i64 0, .int .u64 0, .int .u64 0, .int .u64 0, .int .u64 0, .int .i64 0, .int .i64 0, .int .i64 0, .int .i64 0, .int .i64 0, .int .i64 0, .int .i64 0, .int .i64 0, .bool false, .int .i64 0, .int .i64 0, .int .i64 0, .int .i64 0, .int .i64 0, .slice none 0 0, .string .empty, .slice none 0 0] := ⟨(([(0, 3), (3, 1), (4, 1), (5, 1), (6, 1), (7, 1), (8, 3), (11, 1), (12, 4), (16, 2), (18, 1), (19, 9), (28, 3), (31, 1), (32, 1)] : List (Nat × Nat)).toArray[·]?), fun _ => by kernel_rfl, fun i p h => by simpa using h⟩
instance : ZeroT Tryd.prog 68 [.int .i64 0, .int .i64 0, .slice none 0 0, .int .i64 0, .int .i64 0, .bool false, .int .i64 0, .int .i64 0, .int .i64 0, .int .i64 0, .int .i64 0, .int .i64 0, .int .u64 0, .int .u64 0, .int .u64 0, .int .u64 0, .int .i64 0, .int .i64 0, .int .i64 0, .int .i64 0, .int .i64 0, .int .i64 0, .int .i64 0, .int .i64 0, .bool false, .int .i64 0, .int .i64 0, .int .i64 0, .int .i64 0, .int .i64 0, .slice none 0 0, .string .empty, .slice none 0 0] := ⟨_, show still Tryd.prog (zeroValue 68) = some (.agg (List.toArray [.int .i64 0, .int .i64 0, .slice none 0 0, .int .i64 0, .int .i64 0, .bool false, .int .i64 0, .int .i64 0, .int .i64 0, .int .i64 0, .int .i64 0, .int .i64 0, .int .u64 0, .int .u64 0, .int .u64 0, .int .u64 0, .int .i64 0, .int .i64 0, .int .i64 0, .int .i64 0, .int .i64 0, .int .i64 0, .int .i64 0, .int .i64 0, .bool false, .int .i64 0, .int .i64 0, .int .i64 0, .int .i64 0, .int .i64 0, .slice none 0 0, .string .empty, .slice none 0 0])) by kernel_rfl, .agg _⟩
instance : Ag Tryd.prog 69 33 := ⟨_, Tryd.underlying69, rfl, by kernel_rfl⟩
instance : FieldAt Tryd.prog 69 0 0 := ⟨_, _, 2, Tryd.underlying69, rfl, rfl, by kernel_rfl⟩
instance : FieldAt Tryd.prog 69 1 3 := ⟨_, _, 0, Tryd.underlying69, rfl, rfl, by kernel_rfl⟩
instance : FieldAt Tryd.prog 69 2 4 := ⟨_, _, 0, Tryd.underlying69, rfl, rfl, by kernel_rfl⟩
instance : FieldAt Tryd.prog 69 3 5 := ⟨_, _, 0, Tryd.underlying69, rfl, rfl, by kernel_rfl⟩
instance : FieldAt Tryd.prog 69 4 6 := ⟨_, _, 0, Tryd.underlying69, rfl, rfl, by kernel_rfl⟩
instance : FieldAt Tryd.prog 69 5 7 := ⟨_, _, 0, Tryd.underlying69, rfl, rfl, by kernel_rfl⟩
instance : FieldAt Tryd.prog 69 6 8 := ⟨_, _, 2, Tryd.underlying69, rfl, rfl, by kernel_rfl⟩
instance : FieldAt Tryd.prog 69 7 11 := ⟨_, _, 0, Tryd.underlying69, rfl, rfl, by kernel_rfl⟩
instance : FieldAt Tryd.prog 69 8 12 := ⟨_, _, 3, Tryd.underlying69, rfl, rfl, by kernel_rfl⟩
instance : FieldAt Tryd.prog 69 9 16 := ⟨_, _, 1, Tryd.underlying69, rfl, rfl, by kernel_rfl⟩
instance : FieldAt Tryd.prog 69 10 18 := ⟨_, _, 0, Tryd.underlying69, rfl, rfl, by kernel_rfl⟩
instance : FieldAt Tryd.prog 69 11 19 := ⟨_, _, 8, Tryd.underlying69, rfl, rfl, by kernel_rfl⟩
instance : FieldAt Tryd.prog 69 12 28 := ⟨_, _, 2, Tryd.underlying69, rfl, rfl, by kernel_rfl⟩
instance : FieldAt Tryd.prog 69 13 31 := ⟨_, _, 0, Tryd.underlying69, rfl, rfl, by kernel_rfl⟩
instance : FieldAt Tryd.prog 69 14 32 := ⟨_, _, 0, Tryd.underlying69, rfl, rfl, by kernel_rfl⟩
instance : OffsT Tryd.prog 69 [(0, 3), (3, 1), (4, 1), (5, 1), (6, 1), (7, 1), (8, 3), (11, 1), (12, 4), (16, 2), (18, 1), (19, 9), (28, 3), (31, 1), (32, 1)] [.int .i64 0, .int .i64 0, .slice none 0 0, .int .i64 0, .int .i64 0, .bool false, .int .i64 0, .int .i64 0, .int .i64 0, .int .i64 0, .int .i64 0, .int .i64 0, .int .u64 0, .int .u64 0, .int .u64 0, .int .u64 0, .int .i64 0, .int .i64 0, .int .i64 0, .int .i64 0, .int .i64 0, .int .i64 0, .int .i64 0, .int .i64 0, .bool false, .int .i64 0, .int .i64 0, .int .i64 0, .int .i64 0, .int .i64 0, .slice none 0 0, .string .empty, .slice none 0 0] := ⟨(([(0, 3), (3, 1), (4, 1), (5, 1), (6, 1), (7, 1), (8, 3), (11, 1), (12, 4), (16, 2), (18, 1), (19, 9), (28, 3), (31, 1), (32, 1)] : List (Nat × Nat)).toArray[·]?), fun _ => by kernel_rfl, fun i p h => by simpa using h⟩
instance : ZeroT Tryd.prog 69 [.int .i64 0, .int .i64 0, .slice none 0 0, .int .i64 0, .int .i64 0, .bool false, .int .i64 0, .int .i64 0, .int .i64 0, .int .i64 0, .int .i64 0, .int .i64 0, .int .u64 0, .int .u64 0, .int .u64 0, .int .u64 0, .int .i64 0, .int .i64 0, .int .i64 0, .int .i64 0, .int .i64 0, .int .i64 0, .int .i64 0, .int .i64 0, .bool false, .int .i64 0, .int .i64 0, .int .i64 0, .int .i64 0, .int .i64 0, .slice none 0 0, .string .empty, .slice none 0 0] := ⟨_, show still Tryd.prog (zeroValue 69) = some (.agg (List.toArray [.int .i64 0, .int .i64 0, .slice none 0 0, .int .i64 0, .int .i64 0, .bool false, .int .i64 0, .int .i64 0, .int .i64 0, .int .i64 0, .int .i64 0, .int .i64 0, .int .u64 0, .int .u64 0, .int .u64 0, .int .u64 0, .int .i64 0, .int .i64 0, .int .i64 0, .int .i64 0, .int .i64 0, .int .i64 0, .int .i64 0, .int .i64 0, .bool false, .int .i64 0, .int .i64 0, .int .i64 0, .int .i64 0, .int .i64 0, .slice none 0 0, .string .empty, .slice none 0 0])) by kernel_rfl, .agg _⟩
instance : Ag Tryd.prog 70 256 := ⟨_, Tryd.underlying70, rfl, by kernel_rfl⟩
instance : ArrT Tryd.prog 70 256 5 1 := ⟨Tryd.underlying70, by kernel_rfl⟩
instance : Ag Tryd.prog 71 520 := ⟨_, Tryd.underlying71, rfl, by kernel_rfl⟩
instance : FieldAt Tryd.prog 71 0 0 := ⟨_, _, 255, Tryd.underlying71, rfl, rfl, by kernel_rfl⟩
instance : FieldAt Tryd.prog 71 1 256 := ⟨_, _, 255, Tryd.underlying71, rfl, rfl, by kernel_rfl⟩
instance : FieldAt Tryd.prog 71 2 512 := ⟨_, _, 3, Tryd.underlying71, rfl, rfl, by kernel_rfl⟩
instance : FieldAt Tryd.prog 71 3 516 := ⟨_, _, 3, Tryd.underlying71, rfl, rfl, by kernel_rfl⟩
instance : Ag Tryd.prog 72 520 := ⟨_, Tryd.underlying72, rfl, by kernel_rfl⟩
instance : FieldAt Tryd.prog 72 0 0 := ⟨_, _, 255, Tryd.underlying72, rfl, rfl, by kernel_rfl⟩
instance : FieldAt Tryd.prog 72 1 256 := ⟨_, _, 255, Tryd.underlying72, rfl, rfl, by kernel_rfl⟩
instance : FieldAt Tryd.prog 72 2 512 := ⟨_, _, 3, Tryd.underlying72, rfl, rfl, by kernel_rfl⟩
instance : FieldAt Tryd.prog 72 3 516 := ⟨_, _, 3, Tryd.underlying72, rfl, rfl, by kernel_rfl⟩
instance : Ag Tryd.prog 73 2 := ⟨_, Tryd.underlying73, rfl, by kernel_rfl⟩
instance : FieldAt Tryd.prog 73 0 0 := ⟨_, _, 0, Tryd.underlying73, rfl, rfl, by kernel_rfl⟩
instance : FieldAt Tryd.prog 73 1 1 := ⟨_, _, 0, Tryd.underlying73, rfl, rfl, by kernel_rfl⟩
instance : OffsT Tryd.prog 73 [(0, 1), (1, 1)] [.slice none 0 0, .int .i64 0] := ⟨(([(0, 1), (1, 1)] : List (Nat × Nat)).toArray[·]?), fun _ => by kernel_rfl, fun i p h => by simpa using h⟩
instance : ZeroT Tryd.prog 73 [.slice none 0 0, .int .i64 0] := ⟨_, show still Tryd.prog (zeroValue 73) = some (.agg (List.toArray [.slice none 0 0, .int .i64 0])) by kernel_rfl, .agg _⟩
instance : Ag Tryd.prog 74 2 := ⟨_, Tryd.underlying74, rfl, by kernel_rfl⟩
instance : FieldAt Tryd.prog 74 0 0 := ⟨_, _, 0, Tryd.underlying74, rfl, rfl, by kernel_rfl⟩
instance : FieldAt Tryd.prog 74 1 1 := ⟨_, _, 0, Tryd.underlying74, rfl, rfl, by kernel_rfl⟩
instance : OffsT Tryd.prog 74 [(0, 1), (1, 1)] [.slice none 0 0, .int .i64 0] := ⟨(([(0, 1), (1, 1)] : List (Nat × Nat)).toArray[·]?), fun _ => by kernel_rfl, fun i p h => by simpa using h⟩
instance : ZeroT Tryd.prog 74 [.slice none 0 0, .int .i64 0] := ⟨_, show still Tryd.prog (zeroValue 74) = some (.agg (List.toArray [.slice none 0 0, .int .i64 0])) by kernel_rfl, .agg _⟩
instance : Ag Tryd.prog 75 19 := ⟨_, Tryd.underlying75, rfl, by kernel_rfl⟩
instance : ArrT Tryd.prog 75 19 5 1 := ⟨Tryd.underlying75, by kernel_rfl⟩
instance : OffsT Tryd.prog 75 (arrOffs 19 1) [.int .u8 0, .int .u8 0, .int .u8 0, .int .u8 0, .int .u8 0, .int .u8 0, .int .u8 0, .int .u8 0, .int .u8 0, .int .u8 0, .int .u8 0, .int .u8 0, .int .u8 0, .int .u8 0, .int .u8 0, .int .u8 0, .int .u8 0, .int .u8 0, .int .u8 0] := ⟨fun i => some (i * 1, 1), fun _ => by kernel_rfl, arrOffs_at 19 1⟩
instance : ZeroT Tryd.prog 75 [.int .u8 0, .int .u8 0, .int .u8 0, .int .u8 0, .int .u8 0, .int .u8 0, .int .u8 0, .int .u8 0, .int .u8 0, .int .u8 0, .int .u8 0, .int .u8 0, .int .u8 0, .int .u8 0, .int .u8 0, .int .u8 0, .int .u8 0, .int .u8 0, .int .u8 0] := ⟨_, show still Tryd.prog (zeroValue 75) = some (.agg (List.toArray [.int .u8 0, .int .u8 0, .int .u8 0, .int .u8 0, .int .u8 0, .int .u8 0, .int .u8 0, .int .u8 0, .int .u8 0, .int .u8 0, .int .u8 0, .int .u8 0, .int .u8 0, .int .u8 0, .int .u8 0, .int .u8 0, .int .u8 0, .int .u8 0, .int .u8 0])) by kernel_rfl, .agg _⟩
instance : Ag Tryd.prog 76 38 := ⟨_, Tryd.underlying76, rfl, by kernel_rfl⟩
instance : FieldAt Tryd.prog 76 0 0 := ⟨_, _, 18, Tryd.underlying76, rfl, rfl, by kernel_rfl⟩
instance : FieldAt Tryd.prog 76 1 19 := ⟨_, _, 18, Tryd.underlying76, rfl, rfl, by kernel_rfl⟩
instance : OffsT Tryd.prog 76 [(0, 19), (19, 19)] [.int .u8 0, .int .u8 0, .int .u8 0, .int .u8 0, .int .u8 0, .int .u8 0, .int .u8 0, .int .u8 0, .int .u8 0, .int .u8 0, .int .u8 0, .int .u8 0, .int .u8 0, .int .u8 0, .int .u8 0, .int .u8 0, .int .u8 0, .int .u8 0, .int .u8 0, .int .u8 0, .int .u8 0, .int .u8 0, .int .u8 0, .int .u8 0, .int .u8 0, .int .u8 0, .int .u8 0, .int .u8 0, .int .u8 0, .int .u8 0, .int .u8 0, .int .u8 0, .int .u8 0, .int .u8 0, .int .u8 0, .int .u8 0, .int .u8 0, .int .u8 0] := ⟨(([(0, 19), (19, 19)] : List (Nat × Nat)).toArray[·]?), fun _ => by kernel_rfl, fun i p h => by simpa using h⟩
instance : ZeroT Tryd.prog 76 [.int .u8 0, .int .u8 0, .int .u8 0, .int .u8 0, .int .u8 0, .int .u8 0, .int .u8 0, .int .u8 0, .int .u8 0, .int .u8 0, .int .u8 0, .int .u8 0, .int .u8 0, .int .u8 0, .int .u8 0, .int .u8 0, .int .u8 0, .int .u8 0, .int .u8 0, .int .u8 0, .int .u8 0, .int .u8 0, .int .u8 0, .int .u8 0, .int .u8 0, .int .u8 0, .int .u8 0, .int .u8 0, .int .u8 0, .int .u8 0, .int .u8 0, .int .u8 0, .int .u8 0, .int .u8 0, .int .u8 0, .int .u8 0, .int .u8 0, .int .u8 0] := ⟨_, show still Tryd.prog (zeroValue 76) = some (.agg (List.toArray [.int .u8 0, .int .u8 0, .int .u8 0, .int .u8 0, .int .u8 0, .int .u8 0, .int .u8 0, .int .u8 0, .int .u8 0, .int .u8 0, .int .u8 0, .int .u8 0, .int .u8 0, .int .u8 0, .int .u8 0, .int .u8 0, .int .u8 0, .int .u8 0, .int .u8 0, .int .u8 0, .int .u8 0, .int .u8 0, .int .u8 0, .int .u8 0, .int .u8 0, .int .u8 0, .int .u8 0, .int .u8 0, .int .u8 0, .int .u8 0, .int .u8 0, .int .u8 0, .int .u8 0, .int .u8 0, .int .u8 0, .int .u8 0, .int .u8 0, .int .u8 0])) by kernel_rfl, .agg _⟩
instance : Ag Tryd.prog 77 38 := ⟨_, Tryd.underlying77, rfl, by kernel_rfl⟩
instance : FieldAt Tryd.prog 77 0 0 := ⟨_, _, 18, Tryd.underlying77, rfl, rfl, by kernel_rfl⟩
instance : FieldAt Tryd.prog 77 1 19 := ⟨_, _, 18, Tryd.underlying77, rfl, rfl, by kernel_rfl⟩
instance : OffsT Tryd.prog 77 [(0, 19), (19, 19)] [.int .u8 0, .int .u8 0, .int .u8 0, .int .u8 0, .int .u8 0, .int .u8 0, .int .u8 0, .int .u8 0, .int .u8 0, .int .u8 0, .int .u8 0, .int .u8 0, .int .u8 0, .int .u8 0, .int .u8 0, .int .u8 0, .int .u8 0, .int .u8 0, .int .u8 0, .int .u8 0, .int .u8 0, .int .u8 0, .int .u8 0, .int .u8 0, .int .u8 0, .int .u8 0, .int .u8 0, .int .u8 0, .int .u8 0, .int .u8 0, .int .u8 0, .int .u8 0, .int .u8 0, .int .u8 0, .int .u8 0, .int .u8 0, .int .u8 0, .int .u8 0] := ⟨(([(0, 19), (19, 19)] : List (Nat × Nat)).toArray[·]?), fun _ => by kernel_rfl, fun i p h => by simpa using h⟩
instance : ZeroT Tryd.prog 77 [.int .u8 0, .int .u8 0, .int .u8 0, .int .u8 0, .int .u8 0, .int .u8 0, .int .u8 0, .int .u8 0, .int .u8 0, .int .u8 0, .int .u8 0, .int .u8 0, .int .u8 0, .int .u8 0, .int .u8 0, .int .u8 0, .int .u8 0, .int .u8 0, .int .u8 0, .int .u8 0, .int .u8 0, .int .u8 0, .int .u8 0, .int .u8 0, .int .u8 0, .int .u8 0, .int .u8 0, .int .u8 0, .int .u8 0, .int .u8 0, .int .u8 0, .int .u8 0, .int .u8 0, .int .u8 0, .int .u8 0, .int .u8 0, .int .u8 0, .int .u8 0] := ⟨_, show still Tryd.prog (zeroValue 77) = some (.agg (List.toArray [.int .u8 0, .int .u8 0, .int .u8 0, .int .u8 0, .int .u8 0, .int .u8 0, .int .u8 0, .int .u8 0, .int .u8 0, .int .u8 0, .int .u8 0, .int .u8 0, .int .u8 0, .int .u8 0, .int .u8 0, .int .u8 0, .int .u8 0, .int .u8 0, .int .u8 0, .int .u8 0, .int .u8 0, .int .u8 0, .int .u8 0, .int .u8 0, .int .u8 0, .int .u8 0, .int .u8 0, .int .u8 0, .int .u8 0, .int .u8 0, .int .u8 0, .int .u8 0, .int .u8 0, .int .u8 0, .int .u8 0, .int .u8 0, .int .u8 0, .int .u8 0])) by kernel_rfl, .agg _⟩
instance : Ag Tryd.prog 78 4 := ⟨_, Tryd.underlying78, rfl, by kernel_rfl⟩
instance : FieldAt Tryd.prog 78 0 0 := ⟨_, _, 3, Tryd.underlying78, rfl, rfl, by kernel_rfl⟩
instance : OffsT Tryd.prog 78 [(0, 4)] [.int .u64 0, .int .u64 0, .int .u64 0, .int .u64 0] := ⟨(([(0, 4)] : List (Nat × Nat)).toArray[·]?), fun _ => by kernel_rfl, fun i p h => by simpa using h⟩
instance : ZeroT Tryd.prog 78 [.int .u64 0, .int .u64 0, .int .u64 0, .int .u64 0] := ⟨_, show still Tryd.prog (zeroValue 78) = some (.agg (List.toArray [.int .u64 0, .int .u64 0, .int .u64 0, .int .u64 0])) by kernel_rfl, .agg _⟩
instance : Ag Tryd.prog 79 2 := ⟨_, Tryd.underlying79, rfl, by kernel_rfl⟩
instance : FieldAt Tryd.prog 79 0 0 := ⟨_, _, 0, Tryd.underlying79, rfl, rfl, by kernel_rfl⟩
instance : FieldAt Tryd.prog 79 1 1 := ⟨_, _, 0, Tryd.underlying79, rfl, rfl, by kernel_rfl⟩
instance : OffsT Tryd.prog 79 [(0, 1), (1, 1)] [.string .empty, .bool false] := ⟨(([(0, 1), (1, 1)] : List (Nat × Nat)).toArray[·]?), fun _ => by kernel_rfl, fun i p h => by simpa using h⟩
instance : ZeroT Tryd.prog 79 [.string .empty, .bool false] := ⟨_, show still Tryd.prog (zeroValue 79) = some (.agg (List.toArray [.string .empty, .bool false])) by kernel_rfl, .agg _⟩
instance : Ag Tryd.prog 80 2 := ⟨_, Tryd.underlying80, rfl, by kernel_rfl⟩
instance : FieldAt Tryd.prog 80 0 0 := ⟨_, _, 0, Tryd.underlying80, rfl, rfl, by kernel_rfl⟩
instance : FieldAt Tryd.prog 80 1 1 := ⟨_, _, 0, Tryd.underlying80, rfl, rfl, by kernel_rfl⟩
instance : OffsT Tryd.prog 80 [(0, 1), (1, 1)] [.string .empty, .bool false] := ⟨(([(0, 1), (1, 1)] : List (Nat × Nat)).toArray[·]?), fun _ => by kernel_rfl, fun i p h => by simpa using h⟩
instance : ZeroT Tryd.prog 80 [.string .empty, .bool false] := ⟨_, show still Tryd.prog (zeroValue 80) = some (.agg (List.toArray [.string .empty, .bool false])) by kernel_rfl, .agg _⟩
instance : Ag Tryd.prog 81 613 := ⟨_, Tryd.underlying81, rfl, by kernel_rfl⟩
instance : FieldAt Tryd.prog 81 0 0 := ⟨_, _, 4, Tryd.underlying81, rfl, rfl, by kernel_rfl⟩
instance : FieldAt Tryd.prog 81 1 5 := ⟨_, _, 0, Tryd.underlying81, rfl, rfl, by kernel_rfl⟩
instance : FieldAt Tryd.prog 81 2 6 := ⟨_, _, 0, Tryd.underlying81, rfl, rfl, by kernel_rfl⟩
instance : FieldAt Tryd.prog 81 3 7 := ⟨_, _, 4, Tryd.underlying81, rfl, rfl, by kernel_rfl⟩
instance : FieldAt Tryd.prog 81 4 12 := ⟨_, _, 32, Tryd.underlying81, rfl, rfl, by kernel_rfl⟩
instance : FieldAt Tryd.prog 81 5 45 := ⟨_, _, 519, Tryd.underlying81, rfl, rfl, by kernel_rfl⟩
instance : FieldAt Tryd.prog 81 6 565 := ⟨_, _, 1, Tryd.underlying81, rfl, rfl, by kernel_rfl⟩
instance : FieldAt Tryd.prog 81 7 567 := ⟨_, _, 0, Tryd.underlying81, rfl, rfl, by kernel_rfl⟩
instance : FieldAt Tryd.prog 81 8 568 := ⟨_, _, 37, Tryd.underlying81, rfl, rfl, by kernel_rfl⟩
instance : FieldAt Tryd.prog 81 9 606 := ⟨_, _, 3, Tryd.underlying81, rfl, rfl, by kernel_rfl⟩
instance : FieldAt Tryd.prog 81 10 610 := ⟨_, _, 1, Tryd.underlying81, rfl, rfl, by kernel_rfl⟩
instance : FieldAt Tryd.prog 81 11 612 := ⟨_, _, 0, Tryd.underlying81, rfl, rfl, by kernel_rfl⟩
instance : Ag Tryd.prog 82 613 := ⟨_, Tryd.underlying82, rfl, by kernel_rfl⟩
instance : FieldAt Tryd.prog 82 0 0 := ⟨_, _, 4, Tryd.underlying82, rfl, rfl, by kernel_rfl⟩
instance : FieldAt Tryd.prog 82 1 5 := ⟨_, _, 0, Tryd.underlying82, rfl, rfl, by kernel_rfl⟩
instance : FieldAt Tryd.prog 82 2 6 := ⟨_, _, 0, Tryd.underlying82, rfl, rfl, by kernel_rfl⟩
instance : FieldAt Tryd.prog 82 3 7 := ⟨_, _, 4, Tryd.underlying82, rfl, rfl, by kernel_rfl⟩
instance : FieldAt Tryd.prog 82 4 12 := ⟨_, _, 32, Tryd.underlying82, rfl, rfl, by kernel_rfl⟩
instance : FieldAt Tryd.prog 82 5 45 := ⟨_, _, 519, Tryd.underlying82, rfl, rfl, by kernel_rfl⟩
instance : FieldAt Tryd.prog 82 6 565 := ⟨_, _, 1, Tryd.underlying82, rfl, rfl, by kernel_rfl⟩
instance : FieldAt Tryd.prog 82 7 567 := ⟨_, _, 0, Tryd.underlying82, rfl, rfl, by kernel_rfl⟩
instance : FieldAt Tryd.prog 82 8 568 := ⟨_, _, 37, Tryd.underlying82, rfl, rfl, by kernel_rfl⟩
instance : FieldAt Tryd.prog 82 9 606 := ⟨_, _, 3, Tryd.underlying82, rfl, rfl, by kernel_rfl⟩
instance : FieldAt Tryd.prog 82 10 610 := ⟨_, _, 1, Tryd.underlying82, rfl, rfl, by kernel_rfl⟩
instance : FieldAt Tryd.prog 82 11 612 := ⟨_, _, 0, Tryd.underlying82, rfl, rfl, by kernel_rfl⟩
instance : Sc Tryd.prog 84 := ⟨_, Tryd.underlying84, rfl, by kernel_rfl⟩
instance : ZeroT Tryd.prog 84 [.nilFunc] := ⟨.nilFunc, by kernel_rfl, .one rfl⟩
instance : Sc Tryd.prog 85 := ⟨_, Tryd.underlying85, rfl, by kernel_rfl⟩
instance : ZeroT Tryd.prog 85 [.nilFunc] := ⟨.nilFunc, by kernel_rfl, .one rfl⟩
instance : Sc Tryd.prog 86 := ⟨_, Tryd.underlying86, rfl, by kernel_rfl⟩
instance : ZeroT Tryd.prog 86 [.nilFunc] := ⟨.nilFunc, by kernel_rfl, .one rfl⟩
instance : Sc Tryd.prog 87 := ⟨_, Tryd.underlying87, rfl, by kernel_rfl⟩
instance : ZeroT Tryd.prog 87 [.pointer none] := ⟨.pointer none, by kernel_rfl, .one rfl⟩
instance : Ag Tryd.prog 88 6 := ⟨_, Tryd.underlying88, rfl, by kernel_rfl⟩
instance : FieldAt Tryd.prog 88 0 0 := ⟨_, _, 4, Tryd.underlying88, rfl, rfl, by kernel_rfl⟩
instance : FieldAt Tryd.prog 88 1 5 := ⟨_, _, 0, Tryd.underlying88, rfl, rfl, by kernel_rfl⟩
instance : OffsT Tryd.prog 88 [(0, 5), (5, 1)] [.int .i64 0, .int .i64 0, .string .empty, .string .empty, .string .empty, .slice none 0 0] := ⟨(([(0, 5), (5, 1)] : List (Nat × Nat)).toArray[·]?), fun _ => by kernel_rfl, fun i p h => by simpa using h⟩
instance : ZeroT Tryd.prog 88 [.int .i64 0, .int .i64 0, .string .empty, .string .empty, .string .empty, .slice none 0 0] := ⟨_, show still Tryd.prog (zeroValue 88) = some (.agg (List.toArray [.int .i64 0, .int .i64 0, .string .empty, .string .empty, .string .empty, .slice none 0 0])) by kernel_rfl, .agg _⟩
instance : Ag Tryd.prog 89 6 := ⟨_, Tryd.underlying89, rfl, by kernel_rfl⟩
instance : FieldAt Tryd.prog 89 0 0 := ⟨_, _, 4, Tryd.underlying89, rfl, rfl, by kernel_rfl⟩
instance : FieldAt Tryd.prog 89 1 5 := ⟨_, _, 0, Tryd.underlying89, rfl, rfl, by kernel_rfl⟩
instance : OffsT Tryd.prog 89 [(0, 5), (5, 1)] [.int .i64 0, .int .i64 0, .string .empty, .string .empty, .string .empty, .slice none 0 0] := ⟨(([(0, 5), (5, 1)] : List (Nat × Nat)).toArray[·]?), fun _ => by kernel_rfl, fun i p h => by simpa using h⟩
instance : ZeroT Tryd.prog 89 [.int .i64 0, .int .i64 0, .string .empty, .string .empty, .string .empty, .slice none 0 0] := ⟨_, show still Tryd.prog (zeroValue 89) = some (.agg (List.toArray [.int .i64 0, .int .i64 0, .string .empty, .string .empty, .string .empty, .slice none 0 0])) by kernel_rfl, .agg _⟩
instance : Sc Tryd.prog 90 := ⟨_, Tryd.underlying90, rfl, by kernel_rfl⟩
instance : ZeroT Tryd.prog 90 [.nilFunc] := ⟨.nilFunc, by kernel_rfl, .one rfl⟩
instance : Sc Tryd.prog 91 := ⟨_, Tryd.underlying91, rfl, by kernel_rfl⟩
instance : ZeroT Tryd.prog 91 [.nilFunc] := ⟨.nilFunc, by kernel_rfl, .one rfl⟩
instance : Sc Tryd.prog 92 := ⟨_, Tryd.underlying92, rfl, by kernel_rfl⟩
instance : ZeroT Tryd.prog 92 [.slice none 0 0] := ⟨.slice none 0 0, by kernel_rfl, .one rfl⟩
instance : SliceT Tryd.prog 92 5 1 1 := ⟨Tryd.underlying92, by decide, by decide, .int .u8 0, by kernel_rfl, by kernel_rfl⟩
instance : Sc Tryd.prog 93 := ⟨_, Tryd.underlying93, rfl, by kernel_rfl⟩
instance : ZeroT Tryd.prog 93 [.nilFunc] := ⟨.nilFunc, by kernel_rfl, .one rfl⟩
instance : Sc Tryd.prog 94 := ⟨_, Tryd.underlying94, rfl, by kernel_rfl⟩
instance : ZeroT Tryd.prog 94 [.nilFunc] := ⟨.nilFunc, by kernel_rfl, .one rfl⟩
instance : Sc Tryd.prog 95 := ⟨_, Tryd.underlying95, rfl, by kernel_rfl⟩
instance : ZeroT Tryd.prog 95 [.nilFunc] := ⟨.nilFunc, by kernel_rfl, .one rfl⟩
instance : Sc Tryd.prog 96 := ⟨_, Tryd.underlying96, rfl, by kernel_rfl⟩
instance : ZeroT Tryd.prog 96 [.nilFunc] := ⟨.nilFunc, by kernel_rfl, .one rfl⟩
instance : Sc Tryd.prog 97 := ⟨_, Tryd.underlying97, rfl, by kernel_rfl⟩
instance : ZeroT Tryd.prog 97 [.nilFunc] := ⟨.nilFunc, by kernel_rfl, .one rfl⟩
instance : Sc Tryd.prog 98 := ⟨_, Tryd.underlying98, rfl, by kernel_rfl⟩
instance : ZeroT Tryd.prog 98 [.nilFunc] := ⟨.nilFunc, by kernel_rfl, .one rfl⟩
instance : Sc Tryd.prog 99 := ⟨_, Tryd.underlying99, rfl, by kernel_rfl⟩
instance : ZeroT Tryd.prog 99 [.nilFunc] := ⟨.nilFunc, by kernel_rfl, .one rfl⟩
instance : Sc Tryd.prog 100 := ⟨_, Tryd.underlying100, rfl, by kernel_rfl⟩
instance : ZeroT Tryd.prog 100 [.nilFunc] := ⟨.nilFunc, by kernel_rfl, .one rfl⟩
instance : Sc Tryd.prog 101 := ⟨_, Tryd.underlying101, rfl, by kernel_rfl⟩
instance : ZeroT Tryd.prog 101 [.nilFunc] := ⟨.nilFunc, by kernel_rfl, .one rfl⟩
instance : Sc Tryd.prog 102 := ⟨_, Tryd.underlying102, rfl, by kernel_rfl⟩
instance : ZeroT Tryd.prog 102 [.nilFunc] := ⟨.nilFunc, by kernel_rfl, .one rfl⟩
instance : Sc Tryd.prog 104 := ⟨_, Tryd.underlying104, rfl, by kernel_rfl⟩
instance : ZeroT Tryd.prog 104 [.nilFunc] := ⟨.nilFunc, by kernel_rfl, .one rfl⟩
instance : Sc Tryd.prog 105 := ⟨_, Tryd.underlying105, rfl, by kernel_rfl⟩
instance : ZeroT Tryd.prog 105 [.nilFunc] := ⟨.nilFunc, by kernel_rfl, .one rfl⟩
instance : Sc Tryd.prog 106 := ⟨_, Tryd.underlying106, rfl, by kernel_rfl⟩
instance : ZeroT Tryd.prog 106 [.nilFunc] := ⟨.nilFunc, by kernel_rfl, .one rfl⟩
instance : Sc Tryd.prog 107 := ⟨_, Tryd.underlying107, rfl, by kernel_rfl⟩
instance : ZeroT Tryd.prog 107 [.nilFunc] := ⟨.nilFunc, by kernel_rfl, .one rfl⟩
instance : Sc Tryd.prog 108 := ⟨_, Tryd.underlying108, rfl, by kernel_rfl⟩
instance : ZeroT Tryd.prog 108 [.nilFunc] := ⟨.nilFunc, by kernel_rfl, .one rfl⟩
instance : Sc Tryd.prog 109 := ⟨_, Tryd.underlying109, rfl, by kernel_rfl⟩
instance : ZeroT Tryd.prog 109 [.nilFunc] := ⟨.nilFunc, by kernel_rfl, .one rfl⟩
instance : Sc Tryd.prog 110 := ⟨_, Tryd.underlying110, rfl, by kernel_rfl⟩
instance : ZeroT Tryd.prog 110 [.nilFunc] := ⟨.nilFunc, by kernel_rfl, .one rfl⟩
instance : Ag Tryd.prog 111 3 := ⟨_, Tryd.underlying111, rfl, by kernel_rfl⟩
instance : ArrT Tryd.prog 111 3 3 1 := ⟨Tryd.underlying111, by kernel_rfl⟩
instance : OffsT Tryd.prog 111 (arrOffs 3 1) [.int .i64 0, .int .i64 0, .int .i64 0] := ⟨fun i => some (i * 1, 1), fun _ => by kernel_rfl, arrOffs_at 3 1⟩
instance : ZeroT Tryd.prog 111 [.int .i64 0, .int .i64 0, .int .i64 0] := ⟨_, show still Tryd.prog (zeroValue 111) = some (.agg (List.toArray [.int .i64 0, .int .i64 0, .int .i64 0])) by kernel_rfl, .agg _⟩
instance : Sc Tryd.prog 112 := ⟨_, Tryd.underlying112, rfl, by kernel_rfl⟩
instance : ZeroT Tryd.prog 112 [.nilIface] := ⟨.nilIface, by kernel_rfl, .one rfl⟩
instance : Sc Tryd.prog 113 := ⟨_, Tryd.underlying113, rfl, by kernel_rfl⟩
instance : ZeroT Tryd.prog 113 [.nilIface] := ⟨.nilIface, by kernel_rfl, .one rfl⟩
instance : Sc Tryd.prog 115 := ⟨_, Tryd.underlying115, rfl, by kernel_rfl⟩
instance : ZeroT Tryd.prog 115 [.nilFunc] := ⟨.nilFunc, by kernel_rfl, .one rfl⟩
instance : Sc Tryd.prog 116 := ⟨_, Tryd.underlying116, rfl, by kernel_rfl⟩
instance : ZeroT Tryd.prog 116 [.int .u64 0] := ⟨.int .u64 0, by kernel_rfl, .one rfl⟩
instance : IntT Tryd.prog 116 .u64 := ⟨Tryd.underlying116⟩
instance : Sc Tryd.prog 117 := ⟨_, Tryd.underlying117, rfl, by kernel_rfl⟩
instance : ZeroT Tryd.prog 117 [.nilFunc] := ⟨.nilFunc, by kernel_rfl, .one rfl⟩
instance : Sc Tryd.prog 119 := ⟨_, Tryd.underlying119, rfl, by kernel_rfl⟩
instance : ZeroT Tryd.prog 119 [.nilFunc] := ⟨.nilFunc, by kernel_rfl, .one rfl⟩
instance : Ag Tryd.prog 120 4 := ⟨_, Tryd.underlying120, rfl, by kernel_rfl⟩
instance : FieldAt Tryd.prog 120 0 0 := ⟨_, _, 0, Tryd.underlying120, rfl, rfl, by kernel_rfl⟩
instance : FieldAt Tryd.prog 120 1 1 := ⟨_, _, 0, Tryd.underlying120, rfl, rfl, by kernel_rfl⟩
instance : FieldAt Tryd.prog 120 2 2 := ⟨_, _, 0, Tryd.underlying120, rfl, rfl, by kernel_rfl⟩
instance : FieldAt Tryd.prog 120 3 3 := ⟨_, _, 0, Tryd.underlying120, rfl, rfl, by kernel_rfl⟩
instance : OffsT Tryd.prog 120 [(0, 1), (1, 1), (2, 1), (3, 1)] [.string .empty, .string .empty, .bool false, .bool false] := ⟨(([(0, 1), (1, 1), (2, 1), (3, 1)] : List (Nat × Nat)).toArray[·]?), fun _ => by kernel_rfl, fun i p h => by simpa using h⟩
instance : ZeroT Tryd.prog 120 [.string .empty, .string .empty, .bool false, .bool false] := ⟨_, show still Tryd.prog (zeroValue 120) = some (.agg (List.toArray [.string .empty, .string .empty, .bool false, .bool false])) by kernel_rfl, .agg _⟩
instance : Ag Tryd.prog 121 4 := ⟨_, Tryd.underlying121, rfl, by kernel_rfl⟩
instance : FieldAt Tryd.prog 121 0 0 := ⟨_, _, 0, Tryd.underlying121, rfl, rfl, by kernel_rfl⟩
instance : FieldAt Tryd.prog 121 1 1 := ⟨_, _, 0, Tryd.underlying121, rfl, rfl, by kernel_rfl⟩
instance : FieldAt Tryd.prog 121 2 2 := ⟨_, _, 0, Tryd.underlying121, rfl, rfl, by kernel_rfl⟩
instance : FieldAt Tryd.prog 121 3 3 := ⟨_, _, 0, Tryd.underlying121, rfl, rfl, by kernel_rfl⟩
instance : OffsT Tryd.prog 121 [(0, 1), (1, 1), (2, 1), (3, 1)] [.string .empty, .string .empty, .bool false, .bool false] := ⟨(([(0, 1), (1, 1), (2, 1), (3, 1)] : List (Nat × Nat)).toArray[·]?), fun _ => by kernel_rfl, fun i p h => by simpa using h⟩
instance : ZeroT Tryd.prog 121 [.string .empty, .string .empty, .bool false, .bool false] := ⟨_, show still Tryd.prog (zeroValue 121) = some (.agg (List.toArray [.string .empty, .string .empty, .bool false, .bool false])) by kernel_rfl, .agg _⟩
instance : Sc Tryd.prog 122 := ⟨_, Tryd.underlying122, rfl, by kernel_rfl⟩
instance : ZeroT Tryd.prog 122 [.nilFunc] := ⟨.nilFunc, by kernel_rfl, .one rfl⟩
instance : Sc Tryd.prog 123 := ⟨_, Tryd.underlying123, rfl, by kernel_rfl⟩
instance : ZeroT Tryd.prog 123 [.nilFunc] := ⟨.nilFunc, by kernel_rfl, .one rfl⟩
instance : Sc Tryd.prog 124 := ⟨_, Tryd.underlying124, rfl, by kernel_rfl⟩
instance : ZeroT Tryd.prog 124 [.nilFunc] := ⟨.nilFunc, by kernel_rfl, .one rfl⟩
instance : Sc Tryd.prog 125 := ⟨_, Tryd.underlying125, rfl, by kernel_rfl⟩
instance : ZeroT Tryd.prog 125 [.nilFunc] := ⟨.nilFunc, by kernel_rfl, .one rfl⟩
instance : Sc Tryd.prog 127 := ⟨_, Tryd.underlying127, rfl, by kernel_rfl⟩
instance : ZeroT Tryd.prog 127 [.nilFunc] := ⟨.nilFunc, by kernel_rfl, .one rfl⟩
instance : Sc Tryd.prog 128 := ⟨_, Tryd.underlying128, rfl, by kernel_rfl⟩
instance : ZeroT Tryd.prog 128 [.nilFunc] := ⟨.nilFunc, by kernel_rfl, .one rfl⟩
instance : Sc Tryd.prog 129 := ⟨_, Tryd.underlying129, rfl, by kernel_rfl⟩
instance : ZeroT Tryd.prog 129 [.nilFunc] := ⟨.nilFunc, by kernel_rfl, .one rfl⟩
instance : Sc Tryd.prog 130 := ⟨_, Tryd.underlying130, rfl, by kernel_rfl⟩
instance : ZeroT Tryd.prog 130 [.nilFunc] := ⟨.nilFunc, by kernel_rfl, .one rfl⟩
instance : Sc Tryd.prog 131 := ⟨_, Tryd.underlying131, rfl, by kernel_rfl⟩
instance : ZeroT Tryd.prog 131 [.map none] := ⟨.map none, by kernel_rfl, .one rfl⟩
instance : Sc Tryd.prog 132 := ⟨_, Tryd.underlying132, rfl, by kernel_rfl⟩
instance : ZeroT Tryd.prog 132 [.nilFunc] := ⟨.nilFunc, by kernel_rfl, .one rfl⟩
instance : Sc Tryd.prog 133 := ⟨_, Tryd.underlying133, rfl, by kernel_rfl⟩
instance : ZeroT Tryd.prog 133 [.nilFunc] := ⟨.nilFunc, by kernel_rfl, .one rfl⟩
instance : Sc Tryd.prog 134 := ⟨_, Tryd.underlying134, rfl, by kernel_rfl⟩
instance : ZeroT Tryd.prog 134 [.nilFunc] := ⟨.nilFunc, by kernel_rfl, .one rfl⟩
instance : Sc Tryd.prog 135 := ⟨_, Tryd.underlying135, rfl, by kernel_rfl⟩
instance : ZeroT Tryd.prog 135 [.nilFunc] := ⟨.nilFunc, by kernel_rfl, .one rfl⟩
instance : Sc Tryd.prog 136 := ⟨_, Tryd.underlying136, rfl, by kernel_rfl⟩
instance : ZeroT Tryd.prog 136 [.nilFunc] := ⟨.nilFunc, by kernel_rfl, .one rfl⟩
instance : Sc Tryd.prog 137 := ⟨_, Tryd.underlying137, rfl, by kernel_rfl⟩
instance : ZeroT Tryd.prog 137 [.nilFunc] := ⟨.nilFunc, by kernel_rfl, .one rfl⟩
instance : Sc Tryd.prog 138 := ⟨_, Tryd.underlying138, rfl, by kernel_rfl⟩
instance : ZeroT Tryd.prog 138 [.nilFunc] := ⟨.nilFunc, by kernel_rfl, .one rfl⟩
instance : Sc Tryd.prog 139 := ⟨_, Tryd.underlying139, rfl, by kernel_rfl⟩
instance : ZeroT Tryd.prog 139 [.nilFunc] := ⟨.nilFunc, by kernel_rfl, .one rfl⟩
instance : Sc Tryd.prog 141 := ⟨_, Tryd.underlying141, rfl, by kernel_rfl⟩
instance : ZeroT Tryd.prog 141 [.nilFunc] := ⟨.nilFunc, by kernel_rfl, .one rfl⟩
instance : Sc Tryd.prog 142 := ⟨_, Tryd.underlying142, rfl, by kernel_rfl⟩
instance : ZeroT Tryd.prog 142 [.nilFunc] := ⟨.nilFunc, by kernel_rfl, .one rfl⟩
instance : Sc Tryd.prog 143 := ⟨_, Tryd.underlying143, rfl, by kernel_rfl⟩
instance : ZeroT Tryd.prog 143 [.nilFunc] := ⟨.nilFunc, by kernel_rfl, .one rfl⟩
instance : Sc Tryd.prog 144 := ⟨_, Tryd.underlying144, rfl, by kernel_rfl⟩
instance : ZeroT Tryd.prog 144 [.nilFunc] := ⟨.nilFunc, by kernel_rfl, .one rfl⟩
instance : Ag Tryd.prog 145 256 := ⟨_, Tryd.underlying145, rfl, by kernel_rfl⟩
instance : ArrT Tryd.prog 145 256 4 1 := ⟨Tryd.underlying145, by kernel_rfl⟩
instance : Ag Tryd.prog 146 256 := ⟨_, Tryd.underlying146, rfl, by kernel_rfl⟩
instance : ArrT Tryd.prog 146 256 4 1 := ⟨Tryd.underlying146, by kernel_rfl⟩
instance : Sc Tryd.prog 148 := ⟨_, Tryd.underlying148, rfl, by kernel_rfl⟩
instance : ZeroT Tryd.prog 148 [.nilFunc] := ⟨.nilFunc, by kernel_rfl, .one rfl⟩
instance : Sc Tryd.prog 149 := ⟨_, Tryd.underlying149, rfl, by kernel_rfl⟩
instance : ZeroT Tryd.prog 149 [.nilFunc] := ⟨.nilFunc, by kernel_rfl, .one rfl⟩
instance : Sc Tryd.prog 150 := ⟨_, Tryd.underlying150, rfl, by kernel_rfl⟩
instance : ZeroT Tryd.prog 150 [.pointer none] := ⟨.pointer none, by kernel_rfl, .one rfl⟩
instance : Sc Tryd.prog 151 := ⟨_, Tryd.underlying151, rfl, by kernel_rfl⟩
instance : ZeroT Tryd.prog 151 [.nilFunc] := ⟨.nilFunc, by kernel_rfl, .one rfl⟩
instance : Sc Tryd.prog 152 := ⟨_, Tryd.underlying152, rfl, by kernel_rfl⟩
instance : ZeroT Tryd.prog 152 [.nilFunc] := ⟨.nilFunc, by kernel_rfl, .one rfl⟩
instance : Sc Tryd.prog 153 := ⟨_, Tryd.underlying153, rfl, by kernel_rfl⟩
instance : ZeroT Tryd.prog 153 [.nilFunc] := ⟨.nilFunc, by kernel_rfl, .one rfl⟩
instance : Sc Tryd.prog 154 := ⟨_, Tryd.underlying154, rfl, by kernel_rfl⟩
instance : ZeroT Tryd.prog 154 [.nilFunc] := ⟨.nilFunc, by kernel_rfl, .one rfl⟩
instance : Sc Tryd.prog 155 := ⟨_, Tryd.underlying155, rfl, by kernel_rfl⟩
instance : ZeroT Tryd.prog 155 [.nilFunc] := ⟨.nilFunc, by kernel_rfl, .one rfl⟩
instance : Sc Tryd.prog 156 := ⟨_, Tryd.underlying156, rfl, by kernel_rfl⟩
instance : ZeroT Tryd.prog 156 [.nilFunc] := ⟨.nilFunc, by kernel_rfl, .one rfl⟩
instance : Sc Tryd.prog 158 := ⟨_, Tryd.underlying158, rfl, by kernel_rfl⟩
instance : ZeroT Tryd.prog 158 [.nilFunc] := ⟨.nilFunc, by kernel_rfl, .one rfl⟩
instance : Sc Tryd.prog 159 := ⟨_, Tryd.underlying159, rfl, by kernel_rfl⟩
instance : ZeroT Tryd.prog 159 [.nilFunc] := ⟨.nilFunc, by kernel_rfl, .one rfl⟩
instance : Sc Tryd.prog 160 := ⟨_, Tryd.underlying160, rfl, by kernel_rfl⟩
instance : ZeroT Tryd.prog 160 [.nilFunc] := ⟨.nilFunc, by kernel_rfl, .one rfl⟩
instance : Sc Tryd.prog 161 := ⟨_, Tryd.underlying161, rfl, by kernel_rfl⟩
instance : ZeroT Tryd.prog 161 [.nilFunc] := ⟨.nilFunc, by kernel_rfl, .one rfl⟩
instance : Sc Tryd.prog 162 := ⟨_, Tryd.underlying162, rfl, by kernel_rfl⟩
instance : ZeroT Tryd.prog 162 [.nilFunc] := ⟨.nilFunc, by kernel_rfl, .one rfl⟩
instance : Sc Tryd.prog 163 := ⟨_, Tryd.underlying163, rfl, by kernel_rfl⟩
instance : ZeroT Tryd.prog 163 [.nilFunc] := ⟨.nilFunc, by kernel_rfl, .one rfl⟩
instance : Sc Tryd.prog 164 := ⟨_, Tryd.underlying164, rfl, by kernel_rfl⟩
instance : ZeroT Tryd.prog 164 [.nilFunc] := ⟨.nilFunc, by kernel_rfl, .one rfl⟩
instance : Sc Tryd.prog 165 := ⟨_, Tryd.underlying165, rfl, by kernel_rfl⟩
instance : ZeroT Tryd.prog 165 [.nilFunc] := ⟨.nilFunc, by kernel_rfl, .one rfl⟩
instance : Ag Tryd.prog 166 1 := ⟨_, Tryd.underlying166, rfl, by kernel_rfl⟩
instance : FieldAt Tryd.prog 166 0 0 := ⟨_, _, 0, Tryd.underlying166, rfl, rfl, by kernel_rfl⟩
instance : OffsT Tryd.prog 166 [(0, 1)] [.slice none 0 0] := ⟨(([(0, 1)] : List (Nat × Nat)).toArray[·]?), fun _ => by kernel_rfl, fun i p h => by simpa using h⟩
instance : ZeroT Tryd.prog 166 [.slice none 0 0] := ⟨_, show still Tryd.prog (zeroValue 166) = some (.agg (List.toArray [.slice none 0 0])) by kernel_rfl, .agg _⟩
instance : Ag Tryd.prog 167 1 := ⟨_, Tryd.underlying167, rfl, by kernel_rfl⟩
instance : FieldAt Tryd.prog 167 0 0 := ⟨_, _, 0, Tryd.underlying167, rfl, rfl, by kernel_rfl⟩
instance : OffsT Tryd.prog 167 [(0, 1)] [.slice none 0 0] := ⟨(([(0, 1)] : List (Nat × Nat)).toArray[·]?), fun _ => by kernel_rfl, fun i p h => by simpa using h⟩
instance : ZeroT Tryd.prog 167 [.slice none 0 0] := ⟨_, show still Tryd.prog (zeroValue 167) = some (.agg (List.toArray [.slice none 0 0])) by kernel_rfl, .agg _⟩
instance : Sc Tryd.prog 168 := ⟨_, Tryd.underlying168, rfl, by kernel_rfl⟩
instance : ZeroT Tryd.prog 168 [.nilFunc] := ⟨.nilFunc, by kernel_rfl, .one rfl⟩
instance : Ag Tryd.prog 169 4 := ⟨_, Tryd.underlying169, rfl, by kernel_rfl⟩
instance : FieldAt Tryd.prog 169 0 0 := ⟨_, _, 0, Tryd.underlying169, rfl, rfl, by kernel_rfl⟩
instance : FieldAt Tryd.prog 169 1 1 := ⟨_, _, 2, Tryd.underlying169, rfl, rfl, by kernel_rfl⟩
instance : OffsT Tryd.prog 169 [(0, 1), (1, 3)] [.int .i64 0, .int .i64 0, .int .i64 0, .int .i64 0] := ⟨(([(0, 1), (1, 3)] : List (Nat × Nat)).toArray[·]?), fun _ => by kernel_rfl, fun i p h => by simpa using h⟩
instance : ZeroT Tryd.prog 169 [.int .i64 0, .int .i64 0, .int .i64 0, .int .i64 0] := ⟨_, show still Tryd.prog (zeroValue 169) = some (.agg (List.toArray [.int .i64 0, .int .i64 0, .int .i64 0, .int .i64 0])) by kernel_rfl, .agg _⟩
instance : Ag Tryd.prog 170 4 := ⟨_, Tryd.underlying170, rfl, by kernel_rfl⟩
instance : FieldAt Tryd.prog 170 0 0 := ⟨_, _, 0, Tryd.underlying170, rfl, rfl, by kernel_rfl⟩
instance : FieldAt Tryd.prog 170 1 1 := ⟨_, _, 2, Tryd.underlying170, rfl, rfl, by kernel_rfl⟩
instance : OffsT Tryd.prog 170 [(0, 1), (1, 3)] [.int .i64 0, .int .i64 0, .int .i64 0, .int .i64 0] := ⟨(([(0, 1), (1, 3)] : List (Nat × Nat)).toArray[·]?), fun _ => by kernel_rfl, fun i p h => by simpa using h⟩
instance : ZeroT Tryd.prog 170 [.int .i64 0, .int .i64 0, .int .i64 0, .int .i64 0] := ⟨_, show still Tryd.prog (zeroValue 170) = some (.agg (List.toArray [.int .i64 0, .int .i64 0, .int .i64 0, .int .i64 0])) by kernel_rfl, .agg _⟩
instance : Sc Tryd.prog 171 := ⟨_, Tryd.underlying171, rfl, by kernel_rfl⟩
instance : ZeroT Tryd.prog 171 [.nilFunc] := ⟨.nilFunc, by kernel_rfl, .one rfl⟩
instance : Sc Tryd.prog 172 := ⟨_, Tryd.underlying172, rfl, by kernel_rfl⟩
instance : ZeroT Tryd.prog 172 [.nilFunc] := ⟨.nilFunc, by kernel_rfl, .one rfl⟩
instance : Sc Tryd.prog 173 := ⟨_, Tryd.underlying173, rfl, by kernel_rfl⟩
instance : ZeroT Tryd.prog 173 [.nilFunc] := ⟨.nilFunc, by kernel_rfl, .one rfl⟩
instance : Sc Tryd.prog 174 := ⟨_, Tryd.underlying174, rfl, by kernel_rfl⟩
instance : ZeroT Tryd.prog 174 [.pointer none] := ⟨.pointer none, by kernel_rfl, .one rfl⟩
instance : Ag Tryd.prog 175 2 := ⟨_, Tryd.underlying175, rfl, by kernel_rfl⟩
instance : FieldAt Tryd.prog 175 0 0 := ⟨_, _, 0, Tryd.underlying175, rfl, rfl, by kernel_rfl⟩
instance : FieldAt Tryd.prog 175 1 1 := ⟨_, _, 0, Tryd.underlying175, rfl, rfl, by kernel_rfl⟩
instance : OffsT Tryd.prog 175 [(0, 1), (1, 1)] [.pointer none, .slice none 0 0] := ⟨(([(0, 1), (1, 1)] : List (Nat × Nat)).toArray[·]?), fun _ => by kernel_rfl, fun i p h => by simpa using h⟩
instance : ZeroT Tryd.prog 175 [.pointer none, .slice none 0 0] := ⟨_, show still Tryd.prog (zeroValue 175) = some (.agg (List.toArray [.pointer none, .slice none 0 0])) by kernel_rfl, .agg _⟩
instance : Ag Tryd.prog 176 2 := ⟨_, Tryd.underlying176, rfl, by kernel_rfl⟩
instance : FieldAt Tryd.prog 176 0 0 := ⟨_, _, 0, Tryd.underlying176, rfl, rfl, by kernel_rfl⟩
instance : FieldAt Tryd.prog 176 1 1 := ⟨_, _, 0, Tryd.underlying176, rfl, rfl, by kernel_rfl⟩
instance : OffsT Tryd.prog 176 [(0, 1), (1, 1)] [.pointer none, .slice none 0 0] := ⟨(([(0, 1), (1, 1)] : List (Nat × Nat)).toArray[·]?), fun _ => by kernel_rfl, fun i p h => by simpa using h⟩
instance : ZeroT Tryd.prog 176 [.pointer none, .slice none 0 0] := ⟨_, show still Tryd.prog (zeroValue 176) = some (.agg (List.toArray [.pointer none, .slice none 0 0])) by kernel_rfl, .agg _⟩
instance : Sc Tryd.prog 177 := ⟨_, Tryd.underlying177, rfl, by kernel_rfl⟩
instance : ZeroT Tryd.prog 177 [.nilFunc] := ⟨.nilFunc, by kernel_rfl, .one rfl⟩
instance : Sc Tryd.prog 178 := ⟨_, Tryd.underlying178, rfl, by kernel_rfl⟩
instance : ZeroT Tryd.prog 178 [.nilFunc] := ⟨.nilFunc, by kernel_rfl, .one rfl⟩
instance : Ag Tryd.prog 179 2 := ⟨_, Tryd.underlying179, rfl, by kernel_rfl⟩
instance : FieldAt Tryd.prog 179 0 0 := ⟨_, _, 0, Tryd.underlying179, rfl, rfl, by kernel_rfl⟩
instance : FieldAt Tryd.prog 179 1 1 := ⟨_, _, 0, Tryd.underlying179, rfl, rfl, by kernel_rfl⟩
instance : OffsT Tryd.prog 179 [(0, 1), (1, 1)] [.int .u8 0, .int .u8 0] := ⟨(([(0, 1), (1, 1)] : List (Nat × Nat)).toArray[·]?), fun _ => by kernel_rfl, fun i p h => by simpa using h⟩
instance : ZeroT Tryd.prog 179 [.int .u8 0, .int .u8 0] := ⟨_, show still Tryd.prog (zeroValue 179) = some (.agg (List.toArray [.int .u8 0, .int .u8 0])) by kernel_rfl, .agg _⟩
instance : Ag Tryd.prog 180 2 := ⟨_, Tryd.underlying180, rfl, by kernel_rfl⟩
instance : FieldAt Tryd.prog 180 0 0 := ⟨_, _, 0, Tryd.underlying180, rfl, rfl, by kernel_rfl⟩
instance : FieldAt Tryd.prog 180 1 1 := ⟨_, _, 0, Tryd.underlying180, rfl, rfl, by kernel_rfl⟩
instance : OffsT Tryd.prog 180 [(0, 1), (1, 1)] [.int .u8 0, .int .u8 0] := ⟨(([(0, 1), (1, 1)] : List (Nat × Nat)).toArray[·]?), fun _ => by kernel_rfl, fun i p h => by simpa using h⟩
instance : ZeroT Tryd.prog 180 [.int .u8 0, .int .u8 0] := ⟨_, show still Tryd.prog (zeroValue 180) = some (.agg (List.toArray [.int .u8 0, .int .u8 0])) by kernel_rfl, .agg _⟩
instance : Ag Tryd.prog 181 32 := ⟨_, Tryd.underlying181, rfl, by kernel_rfl⟩
instance : ArrT Tryd.prog 181 16 180 2 := ⟨Tryd.underlying181, by kernel_rfl⟩
instance : OffsT Tryd.prog 181 (arrOffs 16 2) [.int .u8 0, .int .u8 0, .int .u8 0, .int .u8 0, .int .u8 0, .int .u8 0, .int .u8 0, .int .u8 0, .int .u8 0, .int .u8 0, .int .u8 0, .int .u8 0, .int .u8 0, .int .u8 0, .int .u8 0, .int .u8 0, .int .u8 0, .int .u8 0, .int .u8 0, .int .u8 0, .int .u8 0, .int .u8 0, .int .u8 0, .int .u8 0, .int .u8 0, .int .u8 0, .int .u8 0, .int .u8 0, .int .u8 0, .int .u8 0, .int .u8 0, .int .u8 0] := ⟨fun i => some (i * 2, 2), fun _ => by kernel_rfl, arrOffs_at 16 2⟩
instance : ZeroT Tryd.prog 181 [.int .u8 0, .int .u8 0, .int .u8 0, .int .u8 0, .int .u8 0, .int .u8 0, .int .u8 0, .int .u8 0, .int .u8 0, .int .u8 0, .int .u8 0, .int .u8 0, .int .u8 0, .int .u8 0, .int .u8 0, .int .u8 0, .int .u8 0, .int .u8 0, .int .u8 0, .int .u8 0, .int .u8 0, .int .u8 0, .int .u8 0, .int .u8 0, .int .u8 0, .int .u8 0, .int .u8 0, .int .u8 0, .int .u8 0, .int .u8 0, .int .u8 0, .int .u8 0] := ⟨_, show still Tryd.prog (zeroValue 181) = some (.agg (List.toArray [.int .u8 0, .int .u8 0, .int .u8 0, .int .u8 0, .int .u8 0, .int .u8 0, .int .u8 0, .int .u8 0, .int .u8 0, .int .u8 0, .int .u8 0, .int .u8 0, .int .u8 0, .int .u8 0, .int .u8 0, .int .u8 0, .int .u8 0, .int .u8 0, .int .u8 0, .int .u8 0, .int .u8 0, .int .u8 0, .int .u8 0, .int .u8 0, .int .u8 0, .int .u8 0, .int .u8 0, .int .u8 0, .int .u8 0, .int .u8 0, .int .u8 0, .int .u8 0])) by kernel_rfl, .agg _⟩
instance : Sc Tryd.prog 182 := ⟨_, Tryd.underlying182, rfl, by kernel_rfl⟩
instance : ZeroT Tryd.prog 182 [.nilFunc] := ⟨.nilFunc, by kernel_rfl, .one rfl⟩
instance : Sc Tryd.prog 183 := ⟨_, Tryd.underlying183, rfl, by kernel_rfl⟩
instance : ZeroT Tryd.prog 183 [.nilFunc] := ⟨.nilFunc, by kernel_rfl, .one rfl⟩
instance : Sc Tryd.prog 184 := ⟨_, Tryd.underlying184, rfl, by kernel_rfl⟩
instance : ZeroT Tryd.prog 184 [.nilFunc] := ⟨.nilFunc, by kernel_rfl, .one rfl⟩
instance : Sc Tryd.prog 185 := ⟨_, Tryd.underlying185, rfl, by kernel_rfl⟩
instance : ZeroT Tryd.prog 185 [.nilFunc] := ⟨.nilFunc, by kernel_rfl, .one rfl⟩
instance : Sc Tryd.prog 186 := ⟨_, Tryd.underlying186, rfl, by kernel_rfl⟩
instance : ZeroT Tryd.prog 186 [.nilFunc] := ⟨.nilFunc, by kernel_rfl, .one rfl⟩
instance : Sc Tryd.prog 188 := ⟨_, Tryd.underlying188, rfl, by kernel_rfl⟩
instance : ZeroT Tryd.prog 188 [.nilFunc] := ⟨.nilFunc, by kernel_rfl, .one rfl⟩
instance : Sc Tryd.prog 189 := ⟨_, Tryd.underlying189, rfl, by kernel_rfl⟩
instance : ZeroT Tryd.prog 189 [.nilFunc] := ⟨.nilFunc, by kernel_rfl, .one rfl⟩
instance : Sc Tryd.prog 190 := ⟨_, Tryd.underlying190, rfl, by kernel_rfl⟩
instance : ZeroT Tryd.prog 190 [.int .i64 0] := ⟨.int .i64 0, by kernel_rfl, .one rfl⟩
instance : IntT Tryd.prog 190 .i64 := ⟨Tryd.underlying190⟩
instance : Sc Tryd.prog 192 := ⟨_, Tryd.underlying192, rfl, by kernel_rfl⟩
instance : ZeroT Tryd.prog 192 [.nilFunc] := ⟨.nilFunc, by kernel_rfl, .one rfl⟩
instance : Sc Tryd.prog 193 := ⟨_, Tryd.underlying193, rfl, by kernel_rfl⟩
instance : ZeroT Tryd.prog 193 [.pointer none] := ⟨.pointer none, by kernel_rfl, .one rfl⟩
instance : Sc Tryd.prog 194 := ⟨_, Tryd.underlying194, rfl, by kernel_rfl⟩
instance : ZeroT Tryd.prog 194 [.nilFunc] := ⟨.nilFunc, by kernel_rfl, .one rfl⟩
instance : Sc Tryd.prog 195 := ⟨_, Tryd.underlying195, rfl, by kernel_rfl⟩
instance : ZeroT Tryd.prog 195 [.nilFunc] := ⟨.nilFunc, by kernel_rfl, .one rfl⟩
instance : Sc Tryd.prog 197 := ⟨_, Tryd.underlying197, rfl, by kernel_rfl⟩
instance : ZeroT Tryd.prog 197 [.nilFunc] := ⟨.nilFunc, by kernel_rfl, .one rfl⟩
instance : Sc Tryd.prog 198 := ⟨_, Tryd.underlying198, rfl, by kernel_rfl⟩
instance : ZeroT Tryd.prog 198 [.nilFunc] := ⟨.nilFunc, by kernel_rfl, .one rfl⟩
instance : Sc Tryd.prog 200 := ⟨_, Tryd.underlying200, rfl, by kernel_rfl⟩
instance : ZeroT Tryd.prog 200 [.nilFunc] := ⟨.nilFunc, by kernel_rfl, .one rfl⟩
instance : Sc Tryd.prog 201 := ⟨_, Tryd.underlying201, rfl, by kernel_rfl⟩
instance : ZeroT Tryd.prog 201 [.nilFunc] := ⟨.nilFunc, by kernel_rfl, .one rfl⟩
instance : Sc Tryd.prog 202 := ⟨_, Tryd.underlying202, rfl, by kernel_rfl⟩
instance : ZeroT Tryd.prog 202 [.nilFunc] := ⟨.nilFunc, by kernel_rfl, .one rfl⟩
instance : Sc Tryd.prog 203 := ⟨_, Tryd.underlying203, rfl, by kernel_rfl⟩
instance : ZeroT Tryd.prog 203 [.nilFunc] := ⟨.nilFunc, by kernel_rfl, .one rfl⟩
instance : Sc Tryd.prog 204 := ⟨_, Tryd.underlying204, rfl, by kernel_rfl⟩
instance : ZeroT Tryd.prog 204 [.nilFunc] := ⟨.nilFunc, by kernel_rfl, .one rfl⟩
instance : Sc Tryd.prog 205 := ⟨_, Tryd.underlying205, rfl, by kernel_rfl⟩
instance : ZeroT Tryd.prog 205 [.nilFunc] := ⟨.nilFunc, by kernel_rfl, .one rfl⟩
instance : Sc Tryd.prog 206 := ⟨_, Tryd.underlying206, rfl, by kernel_rfl⟩
instance : ZeroT Tryd.prog 206 [.nilFunc] := ⟨.nilFunc, by kernel_rfl, .one rfl⟩
instance : Sc Tryd.prog 207 := ⟨_, Tryd.underlying207, rfl, by kernel_rfl⟩
instance : ZeroT Tryd.prog 207 [.nilFunc] := ⟨.nilFunc, by kernel_rfl, .one rfl⟩
instance : Sc Tryd.prog 208 := ⟨_, Tryd.underlying208, rfl, by kernel_rfl⟩
instance : ZeroT Tryd.prog 208 [.pointer none] := ⟨.pointer none, by kernel_rfl, .one rfl⟩
instance : Sc Tryd.prog 210 := ⟨_, Tryd.underlying210, rfl, by kernel_rfl⟩
instance : ZeroT Tryd.prog 210 [.nilFunc] := ⟨.nilFunc, by kernel_rfl, .one rfl⟩
instance : Sc Tryd.prog 211 := ⟨_, Tryd.underlying211, rfl, by kernel_rfl⟩
instance : ZeroT Tryd.prog 211 [.nilFunc] := ⟨.nilFunc, by kernel_rfl, .one rfl⟩
instance : Ag Tryd.prog 212 24 := ⟨_, Tryd.underlying212, rfl, by kernel_rfl⟩
instance : ArrT Tryd.prog 212 24 5 1 := ⟨Tryd.underlying212, by kernel_rfl⟩
instance : OffsT Tryd.prog 212 (arrOffs 24 1) [.int .u8 0, .int .u8 0, .int .u8 0, .int .u8 0, .int .u8 0, .int .u8 0, .int .u8 0, .int .u8 0, .int .u8 0, .int .u8 0, .int .u8 0, .int .u8 0, .int .u8 0, .int .u8 0, .int .u8 0, .int .u8 0, .int .u8 0, .int .u8 0, .int .u8 0, .int .u8 0, .int .u8 0, .int .u8 0, .int .u8 0, .int .u8 0] := ⟨fun i => some (i * 1, 1), fun _ => by kernel_rfl, arrOffs_at 24 1⟩
instance : ZeroT Tryd.prog 212 [.int .u8 0, .int .u8 0, .int .u8 0, .int .u8 0, .int .u8 0, .int .u8 0, .int .u8 0, .int .u8 0, .int .u8 0, .int .u8 0, .int .u8 0, .int .u8 0, .int .u8 0, .int .u8 0, .int .u8 0, .int .u8 0, .int .u8 0, .int .u8 0, .int .u8 0, .int .u8 0, .int .u8 0, .int .u8 0, .int .u8 0, .int .u8 0] := ⟨_, show still Tryd.prog (zeroValue 212) = some (.agg (List.toArray [.int .u8 0, .int .u8 0, .int .u8 0, .int .u8 0, .int .u8 0, .int .u8 0, .int .u8 0, .int .u8 0, .int .u8 0, .int .u8 0, .int .u8 0, .int .u8 0, .int .u8 0, .int .u8 0, .int .u8 0, .int .u8 0, .int .u8 0, .int .u8 0, .int .u8 0, .int .u8 0, .int .u8 0, .int .u8 0, .int .u8 0, .int .u8 0])) by kernel_rfl, .agg _⟩
instance : Sc Tryd.prog 213 := ⟨_, Tryd.underlying213, rfl, by kernel_rfl⟩
instance : ZeroT Tryd.prog 213 [.nilFunc] := ⟨.nilFunc, by kernel_rfl, .one rfl⟩
instance : Sc Tryd.prog 214 := ⟨_, Tryd.underlying214, rfl, by kernel_rfl⟩
instance : ZeroT Tryd.prog 214 [.nilFunc] := ⟨.nilFunc, by kernel_rfl, .one rfl⟩
instance : Sc Tryd.prog 216 := ⟨_, Tryd.underlying216, rfl, by kernel_rfl⟩
instance : ZeroT Tryd.prog 216 [.nilFunc] := ⟨.nilFunc, by kernel_rfl, .one rfl⟩
instance : Sc Tryd.prog 217 := ⟨_, Tryd.underlying217, rfl, by kernel_rfl⟩
instance : ZeroT Tryd.prog 217 [.nilFunc] := ⟨.nilFunc, by kernel_rfl, .one rfl⟩
instance : Sc Tryd.prog 218 := ⟨_, Tryd.underlying218, rfl, by kernel_rfl⟩
instance : ZeroT Tryd.prog 218 [.nilFunc] := ⟨.nilFunc, by kernel_rfl, .one rfl⟩
instance : Sc Tryd.prog 220 := ⟨_, Tryd.underlying220, rfl, by kernel_rfl⟩
instance : ZeroT Tryd.prog 220 [.nilFunc] := ⟨.nilFunc, by kernel_rfl, .one rfl⟩
instance : Ag Tryd.prog 221 3 := ⟨_, Tryd.underlying221, rfl, by kernel_rfl⟩
instance : FieldAt Tryd.prog 221 0 0 := ⟨_, _, 0, Tryd.underlying221, rfl, rfl, by kernel_rfl⟩
instance : FieldAt Tryd.prog 221 1 1 := ⟨_, _, 0, Tryd.underlying221, rfl, rfl, by kernel_rfl⟩
instance : FieldAt Tryd.prog 221 2 2 := ⟨_, _, 0, Tryd.underlying221, rfl, rfl, by kernel_rfl⟩
instance : OffsT Tryd.prog 221 [(0, 1), (1, 1), (2, 1)] [.string .empty, .string .empty, .nilIface] := ⟨(([(0, 1), (1, 1), (2, 1)] : List (Nat × Nat)).toArray[·]?), fun _ => by kernel_rfl, fun i p h => by simpa using h⟩
instance : ZeroT Tryd.prog 221 [.string .empty, .string .empty, .nilIface] := ⟨_, show still Tryd.prog (zeroValue 221) = some (.agg (List.toArray [.string .empty, .string .empty, .nilIface])) by kernel_rfl, .agg _⟩
instance : Ag Tryd.prog 222 3 := ⟨_, Tryd.underlying222, rfl, by kernel_rfl⟩
instance : FieldAt Tryd.prog 222 0 0 := ⟨_, _, 0, Tryd.underlying222, rfl, rfl, by kernel_rfl⟩
instance : FieldAt Tryd.prog 222 1 1 := ⟨_, _, 0, Tryd.underlying222, rfl, rfl, by kernel_rfl⟩
instance : FieldAt Tryd.prog 222 2 2 := ⟨_, _, 0, Tryd.underlying222, rfl, rfl, by kernel_rfl⟩
instance : OffsT Tryd.prog 222 [(0, 1), (1, 1), (2, 1)] [.string .empty, .string .empty, .nilIface] := ⟨(([(0, 1), (1, 1), (2, 1)] : List (Nat × Nat)).toArray[·]?), fun _ => by kernel_rfl, fun i p h => by simpa using h⟩
instance : ZeroT Tryd.prog 222 [.string .empty, .string .empty, .nilIface] := ⟨_, show still Tryd.prog (zeroValue 222) = some (.agg (List.toArray [.string .empty, .string .empty, .nilIface])) by kernel_rfl, .agg _⟩
instance : Sc Tryd.prog 223 := ⟨_, Tryd.underlying223, rfl, by kernel_rfl⟩
instance : ZeroT Tryd.prog 223 [.nilFunc] := ⟨.nilFunc, by kernel_rfl, .one rfl⟩
instance : Sc Tryd.prog 224 := ⟨_, Tryd.underlying224, rfl, by kernel_rfl⟩
instance : ZeroT Tryd.prog 224 [.nilFunc] := ⟨.nilFunc, by kernel_rfl, .one rfl⟩
instance : Sc Tryd.prog 225 := ⟨_, Tryd.underlying225, rfl, by kernel_rfl⟩
instance : ZeroT Tryd.prog 225 [.nilFunc] := ⟨.nilFunc, by kernel_rfl, .one rfl⟩
instance : Sc Tryd.prog 226 := ⟨_, Tryd.underlying226, rfl, by kernel_rfl⟩
instance : ZeroT Tryd.prog 226 [.int .u32 0] := ⟨.int .u32 0, by kernel_rfl, .one rfl⟩
instance : IntT Tryd.prog 226 .u32 := ⟨Tryd.underlying226⟩
instance : Sc Tryd.prog 227 := ⟨_, Tryd.underlying227, rfl, by kernel_rfl⟩
instance : Sc Tryd.prog 228 := ⟨_, Tryd.underlying228, rfl, by kernel_rfl⟩
instance : ZeroT Tryd.prog 228 [.nilFunc] := ⟨.nilFunc, by kernel_rfl, .one rfl⟩
instance : Sc Tryd.prog 229 := ⟨_, Tryd.underlying229, rfl, by kernel_rfl⟩
instance : ZeroT Tryd.prog 229 [.nilFunc] := ⟨.nilFunc, by kernel_rfl, .one rfl⟩
instance : Sc Tryd.prog 231 := ⟨_, Tryd.underlying231, rfl, by kernel_rfl⟩
instance : ZeroT Tryd.prog 231 [.nilFunc] := ⟨.nilFunc, by kernel_rfl, .one rfl⟩
instance : Sc Tryd.prog 233 := ⟨_, Tryd.underlying233, rfl, by kernel_rfl⟩
instance : ZeroT Tryd.prog 233 [.nilFunc] := ⟨.nilFunc, by kernel_rfl, .one rfl⟩
instance : Sc Tryd.prog 234 := ⟨_, Tryd.underlying234, rfl, by kernel_rfl⟩
instance : ZeroT Tryd.prog 234 [.nilFunc] := ⟨.nilFunc, by kernel_rfl, .one rfl⟩
instance : Sc Tryd.prog 235 := ⟨_, Tryd.underlying235, rfl, by kernel_rfl⟩
instance : ZeroT Tryd.prog 235 [.nilFunc] := ⟨.nilFunc, by kernel_rfl, .one rfl⟩
instance : Ag Tryd.prog 236 20 := ⟨_, Tryd.underlying236, rfl, by kernel_rfl⟩
instance : ArrT Tryd.prog 236 20 51 1 := ⟨Tryd.underlying236, by kernel_rfl⟩
instance : OffsT Tryd.prog 236 (arrOffs 20 1) [.int .u64 0, .int .u64 0, .int .u64 0, .int .u64 0, .int .u64 0, .int .u64 0, .int .u64 0, .int .u64 0, .int .u64 0, .int .u64 0, .int .u64 0, .int .u64 0, .int .u64 0, .int .u64 0, .int .u64 0, .int .u64 0, .int .u64 0, .int .u64 0, .int .u64 0, .int .u64 0] := ⟨fun i => some (i * 1, 1), fun _ => by kernel_rfl, arrOffs_at 20 1⟩
instance : ZeroT Tryd.prog 236 [.int .u64 0, .int .u64 0, .int .u64 0, .int .u64 0, .int .u64 0, .int .u64 0, .int .u64 0, .int .u64 0, .int .u64 0, .int .u64 0, .int .u64 0, .int .u64 0, .int .u64 0, .int .u64 0, .int .u64 0, .int .u64 0, .int .u64 0, .int .u64 0, .int .u64 0, .int .u64 0] := ⟨_, show still Tryd.prog (zeroValue 236) = some (.agg (List.toArray [.int .u64 0, .int .u64 0, .int .u64 0, .int .u64 0, .int .u64 0, .int .u64 0, .int .u64 0, .int .u64 0, .int .u64 0, .int .u64 0, .int .u64 0, .int .u64 0, .int .u64 0, .int .u64 0, .int .u64 0, .int .u64 0, .int .u64 0, .int .u64 0, .int .u64 0, .int .u64 0])) by kernel_rfl, .agg _⟩
instance : Ag Tryd.prog 237 65 := ⟨_, Tryd.underlying237, rfl, by kernel_rfl⟩
instance : ArrT Tryd.prog 237 65 5 1 := ⟨Tryd.underlying237, by kernel_rfl⟩
instance : Sc Tryd.prog 238 := ⟨_, Tryd.underlying238, rfl, by kernel_rfl⟩
instance : ZeroT Tryd.prog 238 [.nilFunc] := ⟨.nilFunc, by kernel_rfl, .one rfl⟩
instance : Sc Tryd.prog 239 := ⟨_, Tryd.underlying239, rfl, by kernel_rfl⟩
instance : ZeroT Tryd.prog 239 [.nilFunc] := ⟨.nilFunc, by kernel_rfl, .one rfl⟩
instance : Sc Tryd.prog 240 := ⟨_, Tryd.underlying240, rfl, by kernel_rfl⟩
instance : ZeroT Tryd.prog 240 [.nilFunc] := ⟨.nilFunc, by kernel_rfl, .one rfl⟩
instance : Sc Tryd.prog 241 := ⟨_, Tryd.underlying241, rfl, by kernel_rfl⟩
instance : ZeroT Tryd.prog 241 [.pointer none] := ⟨.pointer none, by kernel_rfl, .one rfl⟩
instance : Ag Tryd.prog 242 1 := ⟨_, Tryd.underlying242, rfl, by kernel_rfl⟩
instance : FieldAt Tryd.prog 242 0 0 := ⟨_, _, 0, Tryd.underlying242, rfl, rfl, by kernel_rfl⟩
instance : OffsT Tryd.prog 242 [(0, 1)] [.string .empty] := ⟨(([(0, 1)] : List (Nat × Nat)).toArray[·]?), fun _ => by kernel_rfl, fun i p h => by simpa using h⟩
instance : ZeroT Tryd.prog 242 [.string .empty] := ⟨_, show still Tryd.prog (zeroValue 242) = some (.agg (List.toArray [.string .empty])) by kernel_rfl, .agg _⟩
instance : Ag Tryd.prog 243 1 := ⟨_, Tryd.underlying243, rfl, by kernel_rfl⟩
instance : FieldAt Tryd.prog 243 0 0 := ⟨_, _, 0, Tryd.underlying243, rfl, rfl, by kernel_rfl⟩
instance : OffsT Tryd.prog 243 [(0, 1)] [.string .empty] := ⟨(([(0, 1)] : List (Nat × Nat)).toArray[·]?), fun _ => by kernel_rfl, fun i p h => by simpa using h⟩
instance : ZeroT Tryd.prog 243 [.string .empty] := ⟨_, show still Tryd.prog (zeroValue 243) = some (.agg (List.toArray [.string .empty])) by kernel_rfl, .agg _⟩
instance : Sc Tryd.prog 244 := ⟨_, Tryd.underlying244, rfl, by kernel_rfl⟩
instance : ZeroT Tryd.prog 244 [.nilFunc] := ⟨.nilFunc, by kernel_rfl, .one rfl⟩
instance : Sc Tryd.prog 245 := ⟨_, Tryd.underlying245, rfl, by kernel_rfl⟩
instance : ZeroT Tryd.prog 245 [.nilFunc] := ⟨.nilFunc, by kernel_rfl, .one rfl⟩
instance : Ag Tryd.prog 246 32 := ⟨_, Tryd.underlying246, rfl, by kernel_rfl⟩
instance : ArrT Tryd.prog 246 32 5 1 := ⟨Tryd.underlying246, by kernel_rfl⟩
instance : OffsT Tryd.prog 246 (arrOffs 32 1) [.int .u8 0, .int .u8 0, .int .u8 0, .int .u8 0, .int .u8 0, .int .u8 0, .int .u8 0, .int .u8 0, .int .u8 0, .int .u8 0, .int .u8 0, .int .u8 0, .int .u8 0, .int .u8 0, .int .u8 0, .int .u8 0, .int .u8 0, .int .u8 0, .int .u8 0, .int .u8 0, .int .u8 0, .int .u8 0, .int .u8 0, .int .u8 0, .int .u8 0, .int .u8 0, .int .u8 0, .int .u8 0, .int .u8 0, .int .u8 0, .int .u8 0, .int .u8 0] := ⟨fun i => some (i * 1, 1), fun _ => by kernel_rfl, arrOffs_at 32 1⟩
instance : ZeroT Tryd.prog 246 [.int .u8 0, .int .u8 0, .int .u8 0, .int .u8 0, .int .u8 0, .int .u8 0, .int .u8 0, .int .u8 0, .int .u8 0, .int .u8 0, .int .u8 0, .int .u8 0, .int .u8 0, .int .u8 0, .int .u8 0, .int .u8 0, .int .u8 0, .int .u8 0, .int .u8 0, .int .u8 0, .int .u8 0, .int .u8 0, .int .u8 0, .int .u8 0, .int .u8 0, .int .u8 0, .int .u8 0, .int .u8 0, .int .u8 0, .int .u8 0, .int .u8 0, .int .u8 0] := ⟨_, show still Tryd.prog (zeroValue 246) = some (.agg (List.toArray [.int .u8 0, .int .u8 0, .int .u8 0, .int .u8 0, .int .u8 0, .int .u8 0, .int .u8 0, .int .u8 0, .int .u8 0, .int .u8 0, .int .u8 0, .int .u8 0, .int .u8 0, .int .u8 0, .int .u8 0, .int .u8 0, .int .u8 0, .int .u8 0, .int .u8 0, .int .u8 0, .int .u8 0, .int .u8 0, .int .u8 0, .int .u8 0, .int .u8 0, .int .u8 0, .int .u8 0, .int .u8 0, .int .u8 0, .int .u8 0, .int .u8 0, .int .u8 0])) by kernel_rfl, .agg _⟩
instance : Ag Tryd.prog 247 64 := ⟨_, Tryd.underlying247, rfl, by kernel_rfl⟩
instance : ArrT Tryd.prog 247 64 5 1 := ⟨Tryd.underlying247, by kernel_rfl⟩
instance : Ag Tryd.prog 248 4 := ⟨_, Tryd.underlying248, rfl, by kernel_rfl⟩
instance : FieldAt Tryd.prog 248 0 0 := ⟨_, _, 0, Tryd.underlying248, rfl, rfl, by kernel_rfl⟩
instance : FieldAt Tryd.prog 248 1 1 := ⟨_, _, 0, Tryd.underlying248, rfl, rfl, by kernel_rfl⟩
instance : FieldAt Tryd.prog 248 2 2 := ⟨_, _, 0, Tryd.underlying248, rfl, rfl, by kernel_rfl⟩
instance : FieldAt Tryd.prog 248 3 3 := ⟨_, _, 0, Tryd.underlying248, rfl, rfl, by kernel_rfl⟩
instance : OffsT Tryd.prog 248 [(0, 1), (1, 1), (2, 1), (3, 1)] [.pointer none, .pointer none, .pointer none, .string .empty] := ⟨(([(0, 1), (1, 1), (2, 1), (3, 1)] : List (Nat × Nat)).toArray[·]?), fun _ => by kernel_rfl, fun i p h => by simpa using h⟩
instance : ZeroT Tryd.prog 248 [.pointer none, .pointer none, .pointer none, .string .empty] := ⟨_, show still Tryd.prog (zeroValue 248) = some (.agg (List.toArray [.pointer none, .pointer none, .pointer none, .string .empty])) by kernel_rfl, .agg _⟩
instance : Ag Tryd.prog 249 4 := ⟨_, Tryd.underlying249, rfl, by kernel_rfl⟩
instance : FieldAt Tryd.prog 249 0 0 := ⟨_, _, 0, Tryd.underlying249, rfl, rfl, by kernel_rfl⟩
instance : FieldAt Tryd.prog 249 1 1 := ⟨_, _, 0, Tryd.underlying249, rfl, rfl, by kernel_rfl⟩
instance : FieldAt Tryd.prog 249 2 2 := ⟨_, _, 0, Tryd.underlying249, rfl, rfl, by kernel_rfl⟩
instance : FieldAt Tryd.prog 249 3 3 := ⟨_, _, 0, Tryd.underlying249, rfl, rfl, by kernel_rfl⟩
instance : OffsT Tryd.prog 249 [(0, 1), (1, 1), (2, 1), (3, 1)] [.pointer none, .pointer none, .pointer none, .string .empty] := ⟨(([(0, 1), (1, 1), (2, 1), (3, 1)] : List (Nat × Nat)).toArray[·]?), fun _ => by kernel_rfl, fun i p h => by simpa using h⟩
instance : ZeroT Tryd.prog 249 [.pointer none, .pointer none, .pointer none, .string .empty] := ⟨_, show still Tryd.prog (zeroValue 249) = some (.agg (List.toArray [.pointer none, .pointer none, .pointer none, .string .empty])) by kernel_rfl, .agg _⟩
instance : Sc Tryd.prog 253 := ⟨_, Tryd.underlying253, rfl, by kernel_rfl⟩
instance : ZeroT Tryd.prog 253 [.int .u8 0] := ⟨.int .u8 0, by kernel_rfl, .one rfl⟩
instance : IntT Tryd.prog 253 .u8 := ⟨Tryd.underlying253⟩
instance : Sc Tryd.prog 254 := ⟨_, Tryd.underlying254, rfl, by kernel_rfl⟩
instance : ZeroT Tryd.prog 254 [.int .u8 0] := ⟨.int .u8 0, by kernel_rfl, .one rfl⟩
instance : IntT Tryd.prog 254 .u8 := ⟨Tryd.underlying254⟩
instance : Sc Tryd.prog 255 := ⟨_, Tryd.underlying255, rfl, by kernel_rfl⟩
instance : ZeroT Tryd.prog 255 [.nilFunc] := ⟨.nilFunc, by kernel_rfl, .one rfl⟩
instance : Sc Tryd.prog 256 := ⟨_, Tryd.underlying256, rfl, by kernel_rfl⟩
instance : ZeroT Tryd.prog 256 [.int .i32 0] := ⟨.int .i32 0, by kernel_rfl, .one rfl⟩
instance : IntT Tryd.prog 256 .i32 := ⟨Tryd.underlying256⟩
instance : Sc Tryd.prog 257 := ⟨_, Tryd.underlying257, rfl, by kernel_rfl⟩
instance : ZeroT Tryd.prog 257 [.int .i32 0] := ⟨.int .i32 0, by kernel_rfl, .one rfl⟩
instance : IntT Tryd.prog 257 .i32 := ⟨Tryd.underlying257⟩
instance : Ag Tryd.prog 258 11 := ⟨_, Tryd.underlying258, rfl, by kernel_rfl⟩
instance : FieldAt Tryd.prog 258 0 0 := ⟨_, _, 0, Tryd.underlying258, rfl, rfl, by kernel_rfl⟩
instance : FieldAt Tryd.prog 258 1 1 := ⟨_, _, 0, Tryd.underlying258, rfl, rfl, by kernel_rfl⟩
instance : FieldAt Tryd.prog 258 2 2 := ⟨_, _, 0, Tryd.underlying258, rfl, rfl, by kernel_rfl⟩
instance : FieldAt Tryd.prog 258 3 3 := ⟨_, _, 0, Tryd.underlying258, rfl, rfl, by kernel_rfl⟩
instance : FieldAt Tryd.prog 258 4 4 := ⟨_, _, 0, Tryd.underlying258, rfl, rfl, by kernel_rfl⟩
instance : FieldAt Tryd.prog 258 5 5 := ⟨_, _, 0, Tryd.underlying258, rfl, rfl, by kernel_rfl⟩
instance : FieldAt Tryd.prog 258 6 6 := ⟨_, _, 0, Tryd.underlying258, rfl, rfl, by kernel_rfl⟩
instance : FieldAt Tryd.prog 258 7 7 := ⟨_, _, 0, Tryd.underlying258, rfl, rfl, by kernel_rfl⟩
instance : FieldAt Tryd.prog 258 8 8 := ⟨_, _, 0, Tryd.underlying258, rfl, rfl, by kernel_rfl⟩
instance : FieldAt Tryd.prog 258 9 9 := ⟨_, _, 0, Tryd.underlying258, rfl, rfl, by kernel_rfl⟩
instance : FieldAt Tryd.prog 258 10 10 := ⟨_, _, 0, Tryd.underlying258, rfl, rfl, by kernel_rfl⟩
instance : OffsT Tryd.prog 258 [(0, 1), (1, 1), (2, 1), (3, 1), (4, 1), (5, 1), (6, 1), (7, 1), (8, 1), (9, 1), (10, 1)] [.int .u64 0, .int .u64 0, .int .u32 0, .int .u8 0, .int .u8 0, .int .u8 0, .int .u8 0, .nilFunc, .pointer none, .int .i32 0, .int .i32 0] := ⟨(([(0, 1), (1, 1), (2, 1), (3, 1), (4, 1), (5, 1), (6, 1), (7, 1), (8, 1), (9, 1), (10, 1)] : List (Nat × Nat)).toArray[·]?), fun _ => by kernel_rfl, fun i p h => by simpa using h⟩
instance : ZeroT Tryd.prog 258 [.int .u64 0, .int .u64 0, .int .u32 0, .int .u8 0, .int .u8 0, .int .u8 0, .int .u8 0, .nilFunc, .pointer none, .int .i32 0, .int .i32 0] := ⟨_, show still Tryd.prog (zeroValue 258) = some (.agg (List.toArray [.int .u64 0, .int .u64 0, .int .u32 0, .int .u8 0, .int .u8 0, .int .u8 0, .int .u8 0, .nilFunc, .pointer none, .int .i32 0, .int .i32 0])) by kernel_rfl, .agg _⟩
instance : Ag Tryd.prog 259 11 := ⟨_, Tryd.underlying259, rfl, by kernel_rfl⟩
instance : FieldAt Tryd.prog 259 0 0 := ⟨_, _, 0, Tryd.underlying259, rfl, rfl, by kernel_rfl⟩
instance : FieldAt Tryd.prog 259 1 1 := ⟨_, _, 0, Tryd.underlying259, rfl, rfl, by kernel_rfl⟩
instance : FieldAt Tryd.prog 259 2 2 := ⟨_, _, 0, Tryd.underlying259, rfl, rfl, by kernel_rfl⟩
instance : FieldAt Tryd.prog 259 3 3 := ⟨_, _, 0, Tryd.underlying259, rfl, rfl, by kernel_rfl⟩
instance : FieldAt Tryd.prog 259 4 4 := ⟨_, _, 0, Tryd.underlying259, rfl, rfl, by kernel_rfl⟩
instance : FieldAt Tryd.prog 259 5 5 := ⟨_, _, 0, Tryd.underlying259, rfl, rfl, by kernel_rfl⟩
instance : FieldAt Tryd.prog 259 6 6 := ⟨_, _, 0, Tryd.underlying259, rfl, rfl, by kernel_rfl⟩
instance : FieldAt Tryd.prog 259 7 7 := ⟨_, _, 0, Tryd.underlying259, rfl, rfl, by kernel_rfl⟩
instance : FieldAt Tryd.prog 259 8 8 := ⟨_, _, 0, Tryd.underlying259, rfl, rfl, by kernel_rfl⟩
instance : FieldAt Tryd.prog 259 9 9 := ⟨_, _, 0, Tryd.underlying259, rfl, rfl, by kernel_rfl⟩
instance : FieldAt Tryd.prog 259 10 10 := ⟨_, _, 0, Tryd.underlying259, rfl, rfl, by kernel_rfl⟩
instance : OffsT Tryd.prog 259 [(0, 1), (1, 1), (2, 1), (3, 1), (4, 1), (5, 1), (6, 1), (7, 1), (8, 1), (9, 1), (10, 1)] [.int .u64 0, .int .u64 0, .int .u32 0, .int .u8 0, .int .u8 0, .int .u8 0, .int .u8 0, .nilFunc, .pointer none, .int .i32 0, .int .i32 0] := ⟨(([(0, 1), (1, 1), (2, 1), (3, 1), (4, 1), (5, 1), (6, 1), (7, 1), (8, 1), (9, 1), (10, 1)] : List (Nat × Nat)).toArray[·]?), fun _ => by kernel_rfl, fun i p h => by simpa using h⟩
instance : ZeroT Tryd.prog 259 [.int .u64 0, .int .u64 0, .int .u32 0, .int .u8 0, .int .u8 0, .int .u8 0, .int .u8 0, .nilFunc, .pointer none, .int .i32 0, .int .i32 0] := ⟨_, show still Tryd.prog (zeroValue 259) = some (.agg (List.toArray [.int .u64 0, .int .u64 0, .int .u32 0, .int .u8 0, .int .u8 0, .int .u8 0, .int .u8 0, .nilFunc, .pointer none, .int .i32 0, .int .i32 0])) by kernel_rfl, .agg _⟩
end Go.Proofs.YtflmckoolagikaaDoor
end
section
namespace Go.Proofs.YtflmckoolagikaaDoor
open Go Go.RowKit Go.Fw Go.Sx
theorem maxLen_cell (W : World) (hS : W.ShapedOpen Tryd.prog) : ∃ m, ∀ H w, Holds ⟨W.heap.size, W⟩ H w → w.cell? ⟨2, 0, none⟩ = some (.int .i64 m) := by
  obtain ⟨m, hm⟩ := cell_of_shapedOpen_int (P := Tryd.prog) (w := W) (g := 2) (t := 3) (zero := #[.int .i64 0]) (k := .i64) hS (by decide +kernel) (by kernel_rfl) rfl (by kernel_rfl) (by kernel_rfl) Tryd.underlying3
  refine ⟨m, fun H w hw => ?_⟩
  have hlt : 2 < W.heap.size := by
    rcases Nat.lt_or_ge 2 W.heap.size with h | h
    · exact h
    · exfalso
      simp [World.cell?, Array.getElem?_eq_none h] at hm
  have e := hw.below.block 2 hlt
  rw [← hm]
  unfold World.cell?
  rw [e]
end Go.Proofs.YtflmckoolagikaaDoor
end
section
namespace Go.Fw
open Go Go.RowKit Go.Sx
/-- A name, a value, is it a user's, has it a value. -/
abbrev Vr := ByteArray × ByteArray × Bool × Bool
def vrC (v : Vr) : List Value := [.string v.1, .string v.2.1, .bool v.2.2.1, .bool v.2.2.2]
instance : En vrC 4 := ⟨fun _ => rfl⟩
abbrev vrV (v : Vr) : Value := .agg (vrC v).toArray
def vrs (L : List Vr) : List Value := L.flatMap vrC
@[simp] theorem vrs_len (L : List Vr) : (vrs L).length = L.length * 4 := fm_len L
theorem vrs_snoc (L : List Vr) (x : Vr) : vrs (L ++ [x]) = vrs L ++ vrC x := fm_snoc L x
/-- A 2 ahead of each byte from 0 to 3. -/
def escI (l : List Int) : List Int := l.flatMap fun x => if x ≤ 3 then [2, x] else [x]
theorem escI_cons (x : Int) (l : List Int) : escI (x :: l) = (if x ≤ 3 then [2, x] else [x]) ++ escI l := rfl
theorem escI_app (l m : List Int) : escI (l ++ m) = escI l ++ escI m := by simp [escI]
theorem escI_len (l : List Int) : (escI l).length ≤ 2 * l.length := by
  unfold escI
  induction l with
  | nil => exact Nat.le_refl _
  | cons b l ih =>
    rw [List.flatMap_cons, List.length_append, List.length_cons]
    have : (if b ≤ 3 then [2, b] else [b]).length ≤ 2 := by split <;> simp
    omega
def vI (v : Vr) : List Int := (if v.2.2.1 then 3 else 0) :: (escI (nums v.1) ++ (if v.2.2.2 then 1 :: escI (nums v.2.1) else []))
def varsI (L : List Vr) : List Int := L.flatMap vI
theorem varsI_snoc (L : List Vr) (v : Vr) : varsI (L ++ [v]) = varsI L ++ vI v := by simp [varsI]
def largeV (L : List Vr) : Prop := 20 < L.length ∨ (L.any fun v => decide (200 < v.1.size) || decide (200 < v.2.1.size)) = true
instance (L : List Vr) : Decidable (largeV L) := by unfold largeV; infer_instance
def formV (v : Vr) : Bool := !v.2.2.2 && decide (v.2.1 ≠ ⟨#[]⟩)
def writeV (L : List Vr) : ByteArray × Int :=
  if largeV L then (⟨#[]⟩, 2) else if L.any formV then (⟨#[]⟩, 4) else (strOfNums (varsI L), 0)
theorem writeV_large {L : List Vr} (h : largeV L) : writeV L = (⟨#[]⟩, 2) := if_pos h
theorem writeV_form {L : List Vr} (h : ¬ largeV L) (h2 : L.any formV = true) : writeV L = (⟨#[]⟩, 4) := by unfold writeV; rw [if_neg h, if_pos h2]
theorem writeV_ok {L : List Vr} (h : ¬ largeV L) (h2 : L.any formV = false) : writeV L = (strOfNums (varsI L), 0) := by unfold writeV; rw [if_neg h, if_neg (by rw [h2]; decide)]
theorem writeV_zero {L : List Vr} (h : (writeV L).2 = 0) : (writeV L).1 = strOfNums (varsI L) ∧ ∀ v ∈ L, formV v = false := by
  unfold writeV at *
  split at h
  · cases h
  · split at h
    · cases h
    · rename_i h1 h2
      rw [if_neg h1, if_neg h2]
      refine ⟨rfl, fun v hv => ?_⟩
      rw [← Bool.not_eq_true]
      intro h3
      exact h2 (List.any_eq_true.2 ⟨v, hv, h3⟩)
/-- A piece, as environ reads it. -/
def wordI : List Int → List Int × List Int
  | [] => ([], [])
  | [x] => if x ≤ 3 then ([], [x]) else ([x], [])
  | x :: y :: l => if x = 2 then (y :: (wordI l).1, (wordI l).2) else if x ≤ 3 then ([], x :: y :: l) else (x :: (wordI (y :: l)).1, (wordI (y :: l)).2)
/-- A piece, as the document has it. -/
def pieceI : List Int → Option (List Int × List Int)
  | [] => some ([], [])
  | [x] => if x = 2 then none else if x ≤ 3 then some ([], [x]) else some ([x], [])
  | x :: y :: l => if x = 2 then (if y > 3 then none else (pieceI l).map fun p => (y :: p.1, p.2)) else if x ≤ 3 then some ([], x :: y :: l) else (pieceI (y :: l)).map fun p => (x :: p.1, p.2)
def markI (r : List Int) : Prop := ∀ x, r[0]? = some x → x ≤ 3 ∧ x ≠ 2
theorem piece_ok : ∀ (l w r : List Int), pieceI l = some (w, r) → wordI l = (w, r) ∧ l = escI w ++ r ∧ markI r
  | [], w, r, h => by
    simp only [pieceI, Option.some.injEq, Prod.mk.injEq] at h
    obtain ⟨rfl, rfl⟩ := h
    exact ⟨rfl, rfl, fun x hx => by simp at hx⟩
  | [x], w, r, h => by
    simp only [pieceI] at h
    split at h
    · cases h
    · rename_i h2
      split at h
      · rename_i h3
        simp only [Option.some.injEq, Prod.mk.injEq] at h
        obtain ⟨rfl, rfl⟩ := h
        exact ⟨by simp [wordI, h3], rfl, fun y hy => by simp at hy; subst hy; exact ⟨h3, h2⟩⟩
      · rename_i h3
        simp only [Option.some.injEq, Prod.mk.injEq] at h
        obtain ⟨rfl, rfl⟩ := h
        exact ⟨by simp [wordI, h3], by simp [escI, h3], fun y hy => by simp at hy⟩
  | x :: y :: l, w, r, h => by
    rw [pieceI] at h
    split at h
    · rename_i h2
      subst h2
      split at h
      · cases h
      · rename_i h3
        cases hp : pieceI l with
        | none => rw [hp] at h; cases h
        | some p =>
          rw [hp] at h
          simp only [Option.map_some, Option.some.injEq, Prod.mk.injEq] at h
          obtain ⟨rfl, rfl⟩ := h
          obtain ⟨h4, h5, h6⟩ := piece_ok l p.1 p.2 hp
          refine ⟨?_, ?_, h6⟩
          · rw [wordI, if_pos rfl, h4]
          · rw [escI_cons, if_pos (by omega)]
            rw [List.append_assoc, ← h5]; rfl
    · rename_i h2
      split at h
      · rename_i h3
        simp only [Option.some.injEq, Prod.mk.injEq] at h
        obtain ⟨rfl, rfl⟩ := h
        refine ⟨?_, rfl, fun z hz => ?_⟩
        · rw [wordI, if_neg h2, if_pos h3]
        · simp at hz; subst hz; exact ⟨h3, h2⟩
      · rename_i h3
        cases hp : pieceI (y :: l) with
        | none => rw [hp] at h; cases h
        | some p =>
          rw [hp] at h
          simp only [Option.map_some, Option.some.injEq, Prod.mk.injEq] at h
          obtain ⟨rfl, rfl⟩ := h
          obtain ⟨h4, h5, h6⟩ := piece_ok (y :: l) p.1 p.2 hp
          refine ⟨?_, ?_, h6⟩
          · rw [wordI, if_neg h2, if_neg h3, h4]
          · rw [escI_cons, if_neg h3, List.append_assoc, ← h5]; rfl
theorem piece_esc : ∀ (w r : List Int), markI r → pieceI (escI w ++ r) = some (w, r)
  | [], [], _ => rfl
  | [], [x], h => by
    obtain ⟨h1, h2⟩ := h x rfl
    show pieceI [x] = _
    rw [pieceI, if_neg h2, if_pos h1]
  | [], x :: y :: r, h => by
    obtain ⟨h1, h2⟩ := h x rfl
    show pieceI (x :: y :: r) = _
    rw [pieceI, if_neg h2, if_pos h1]
  | x :: w, r, h => by
    have ih := piece_esc w r h
    rw [escI_cons]
    by_cases hx : x ≤ 3
    · rw [if_pos hx]
      show pieceI (2 :: x :: (escI w ++ r)) = _
      rw [pieceI, if_pos rfl, if_neg (by omega), ih]; rfl
    · rw [if_neg hx]
      show pieceI (x :: (escI w ++ r)) = _
      cases hq : escI w ++ r with
      | nil =>
        have h1 : w = [] := by
          cases w with
          | nil => rfl
          | cons a w => rw [escI_cons] at hq; split at hq <;> simp at hq
        subst h1
        have h2 : r = [] := by simpa [escI] using hq
        subst h2
        rw [pieceI, if_neg (by omega), if_neg hx]
      | cons a t =>
        rw [hq] at ih
        rw [pieceI, if_neg (by omega), if_neg hx, ih]; rfl
theorem word_len : ∀ (l : List Int), (wordI l).2.length ≤ l.length
  | [] => Nat.le_refl _
  | [x] => by unfold wordI; split <;> simp
  | x :: y :: l => by
    have h1 := word_len l
    have h2 := word_len (y :: l)
    rw [wordI]
    split
    · simp at *; omega
    · split
      · exact Nat.le_refl _
      · simp at *; omega
theorem piece_len (l w r : List Int) (h : pieceI l = some (w, r)) : r.length ≤ l.length := by
  have h1 := (piece_ok l w r h).1
  have h2 := word_len l
  rw [h1] at h2
  exact h2
/-- One variable at the front. -/
def stepW (l : List Int) : Option (Vr × List Int) :=
  match l with
  | [] => none
  | x :: l => if x ≠ 0 ∧ x ≠ 3 then none else
    let p := wordI l
    if p.2[0]? = some 1 then let q := wordI (p.2.drop 1); some ((strOfNums p.1, strOfNums q.1, decide (x = 3), true), q.2)
    else some ((strOfNums p.1, ⟨#[]⟩, decide (x = 3), false), p.2)
def stepP (l : List Int) : Option (Vr × List Int) :=
  match l with
  | [] => none
  | x :: l => if x ≠ 0 ∧ x ≠ 3 then none else
    match pieceI l with
    | none => none
    | some p => if p.2[0]? = some 1 then match pieceI (p.2.drop 1) with
        | none => none
        | some q => some ((strOfNums p.1, strOfNums q.1, decide (x = 3), true), q.2)
      else some ((strOfNums p.1, ⟨#[]⟩, decide (x = 3), false), p.2)
def many (st : List Int → Option (Vr × List Int)) : Nat → List Int → Option (List Vr)
  | _, [] => some []
  | 0, _ :: _ => none
  | m + 1, x :: l => match st (x :: l) with
    | none => none
    | some (v, r) => (many st m r).map (v :: ·)
theorem escI_mem {w : List Int} {x : Int} (h : x ∈ w) : x ∈ escI w := by
  unfold escI
  rw [List.mem_flatMap]
  refine ⟨x, h, ?_⟩
  split <;> simp
theorem escI_oct {w : List Int} (h : ∀ x ∈ w, 0 ≤ x ∧ x ≤ 255) : ∀ x ∈ escI w, 0 ≤ x ∧ x ≤ 255 := by
  intro x hx
  unfold escI at hx
  obtain ⟨y, hy, hx⟩ := List.mem_flatMap.1 hx
  have := h y hy
  split at hx
  · simp at hx; omega
  · simp at hx; omega
theorem vI_oct (v : Vr) : ∀ x ∈ vI v, 0 ≤ x ∧ x ≤ 255 := by
  intro x hx
  unfold vI at hx
  rcases List.mem_cons.1 hx with rfl | hx
  · split <;> omega
  · rcases List.mem_append.1 hx with hx | hx
    · exact escI_oct (nums_bound _) x hx
    · split at hx
      · rcases List.mem_cons.1 hx with rfl | hx
        · omega
        · exact escI_oct (nums_bound _) x hx
      · simp at hx
theorem varsI_oct (L : List Vr) : ∀ x ∈ varsI L, 0 ≤ x ∧ x ≤ 255 := by
  intro x hx
  obtain ⟨v, -, hx⟩ := List.mem_flatMap.1 hx
  exact vI_oct v x hx
theorem stepP_ok {l : List Int} {v : Vr} {r : List Int} (h : stepP l = some (v, r)) (hb : ∀ x ∈ l, 0 ≤ x ∧ x ≤ 255) : stepW l = some (v, r) ∧ l = vI v ++ r ∧ formV v = false ∧ r.length < l.length := by
  cases l with
  | nil => cases h
  | cons x l =>
    unfold stepP at h
    unfold stepW
    simp only at h ⊢
    split at h
    · cases h
    · rename_i h0
      have hb2 : ∀ y ∈ l, 0 ≤ y ∧ y ≤ 255 := fun y hy => hb y (List.mem_cons_of_mem _ hy)
      rw [if_neg h0]
      cases hp : pieceI l with
      | none => rw [hp] at h; cases h
      | some p =>
        rw [hp] at h
        simp only at h
        obtain ⟨e1, e2, e3⟩ := piece_ok l p.1 p.2 hp
        have hl := piece_len l p.1 p.2 hp
        have hw1 : ∀ y ∈ p.1, 0 ≤ y ∧ y ≤ 255 := fun y hy => hb2 y (by rw [e2]; exact List.mem_append_left _ (escI_mem hy))
        rw [e1]
        have hx3 : (if decide (x = 3) = true then (3 : Int) else 0) = x := by
          by_cases h3 : x = 3
          · simp [h3]
          · have : x = 0 := by omega
            simp [this]
        split at h
        · rename_i h1
          cases hq : pieceI (p.2.drop 1) with
          | none => rw [hq] at h; cases h
          | some q =>
            rw [hq] at h
            simp only [Option.some.injEq, Prod.mk.injEq] at h
            obtain ⟨rfl, rfl⟩ := h
            obtain ⟨f1, f2, f3⟩ := piece_ok _ q.1 q.2 hq
            have hl2 := piece_len _ q.1 q.2 hq
            have hp2 : p.2 = 1 :: p.2.drop 1 := by
              cases hc : p.2 with
              | nil => rw [hc] at h1; simp at h1
              | cons a t => rw [hc] at h1; simp at h1; rw [h1]; rfl
            have hb3 : ∀ y ∈ p.2, 0 ≤ y ∧ y ≤ 255 := fun y hy => hb2 y (by rw [e2]; exact List.mem_append_right _ hy)
            have hw2 : ∀ y ∈ q.1, 0 ≤ y ∧ y ≤ 255 := fun y hy => hb3 y (by rw [hp2, f2]; exact List.mem_cons_of_mem _ (List.mem_append_left _ (escI_mem hy)))
            refine ⟨?_, ?_, rfl, ?_⟩
            · rw [if_pos h1, f1]
            · unfold vI
              simp only [if_true, nums_strOf hw1, nums_strOf hw2]
              rw [hx3, List.cons_append, List.append_assoc, List.cons_append, ← f2, ← hp2, ← e2]
            · have : (p.2.drop 1).length ≤ p.2.length := by simp
              simp only [List.length_cons]; omega
        · rename_i h1
          simp only [Option.some.injEq, Prod.mk.injEq] at h
          obtain ⟨rfl, rfl⟩ := h
          refine ⟨?_, ?_, rfl, by simp only [List.length_cons]; omega⟩
          · rw [if_neg h1]
          · unfold vI
            simp only [Bool.false_eq_true, if_false, List.append_nil, nums_strOf hw1]
            rw [hx3, List.cons_append, ← e2]
theorem stepP_inv (v : Vr) (r : List Int) (hf : formV v = false) (hr : ∀ x, r[0]? = some x → x = 0 ∨ x = 3) : stepP (vI v ++ r) = some (v, r) := by
  obtain ⟨n, w, u, st⟩ := v
  have hm : markI r := fun x hx => by have := hr x hx; omega
  have hne : ¬ r[0]? = some 1 := fun h => by have := hr 1 h; omega
  have hu : (if u = true then (3 : Int) else 0) = 0 ∨ (if u = true then (3 : Int) else 0) = 3 := by cases u <;> simp
  have hd : decide ((if u = true then (3 : Int) else 0) = 3) = u := by cases u <;> rfl
  unfold vI stepP
  dsimp only
  rw [List.cons_append]
  simp only
  rw [if_neg (by omega), hd]
  cases st with
  | false =>
    have hw : w = ⟨#[]⟩ := by simpa [formV] using hf
    subst hw
    rw [if_neg (by decide), List.append_nil, piece_esc _ _ hm]
    simp only
    rw [if_neg hne, strOf_nums]
  | true =>
    rw [if_pos rfl, List.append_assoc, List.cons_append, piece_esc (nums n) _ (fun x hx => by simp at hx; omega)]
    simp only [List.getElem?_cons_zero, if_true, List.drop_succ_cons, List.drop_zero]
    rw [piece_esc _ _ hm]
    simp only [strOf_nums]
theorem many_ok : ∀ (m : Nat) (l : List Int) (L : List Vr), many stepP m l = some L → (∀ x ∈ l, 0 ≤ x ∧ x ≤ 255) → many stepW m l = some L ∧ varsI L = l ∧ ∀ v ∈ L, formV v = false
  | m, [], L, h, _ => by
    have hL : L = [] := by cases m <;> simpa [many] using h.symm
    subst hL
    exact ⟨by cases m <;> rfl, rfl, fun v hv => by simp at hv⟩
  | 0, x :: l, L, h, _ => by cases h
  | m + 1, x :: l, L, h, hb => by
    unfold many at h ⊢
    cases hs : stepP (x :: l) with
    | none => rw [hs] at h; cases h
    | some p =>
      obtain ⟨v, r⟩ := p
      rw [hs] at h
      simp only at h
      obtain ⟨e1, e2, e3, -⟩ := stepP_ok hs hb
      cases hm : many stepP m r with
      | none => rw [hm] at h; cases h
      | some M =>
        rw [hm] at h
        simp only [Option.map_some, Option.some.injEq] at h
        subst h
        obtain ⟨f1, f2, f3⟩ := many_ok m r M hm (fun y hy => hb y (by rw [e2]; exact List.mem_append_right _ hy))
        rw [e1]
        simp only
        rw [f1]
        refine ⟨rfl, ?_, fun w hw => ?_⟩
        · show vI v ++ varsI M = _
          rw [f2, ← e2]
        · rcases List.mem_cons.1 hw with rfl | hw
          · exact e3
          · exact f3 w hw
theorem varsI_head (L : List Vr) : ∀ x, (varsI L)[0]? = some x → x = 0 ∨ x = 3 := by
  intro x hx
  cases L with
  | nil => simp [varsI] at hx
  | cons v L =>
    have : (varsI (v :: L))[0]? = some (if v.2.2.1 then 3 else 0) := rfl
    rw [this] at hx
    simp only [Option.some.injEq] at hx
    subst hx
    split <;> simp
theorem varsI_len (L : List Vr) : L.length ≤ (varsI L).length := by
  unfold varsI
  induction L with
  | nil => exact Nat.le_refl _
  | cons v L ih =>
    rw [List.flatMap_cons, List.length_append, List.length_cons]
    have : 1 ≤ (vI v).length := by unfold vI; simp
    omega
theorem many_inv : ∀ (L : List Vr) (m : Nat), L.length ≤ m → (∀ v ∈ L, formV v = false) → many stepP m (varsI L) = some L
  | [], m, _, _ => by cases m <;> rfl
  | v :: L, 0, h, _ => by simp at h
  | v :: L, m + 1, h, hf => by
    have e : varsI (v :: L) = vI v ++ varsI L := rfl
    have hs := stepP_inv v (varsI L) (hf v List.mem_cons_self) (varsI_head L)
    rw [← e] at hs
    have hi := many_inv L m (by simpa using h) (fun w hw => hf w (List.mem_cons_of_mem _ hw))
    cases hc : varsI (v :: L) with
    | nil => have := varsI_len (v :: L); rw [hc] at this; simp at this
    | cons a t =>
      rw [hc] at hs
      rw [many, hs]
      simp only
      rw [hi]; rfl
def readW (s : ByteArray) : List Vr × Int :=
  if 4096 < s.size then ([], 2) else match many stepW s.size (nums s) with
    | none => ([], 4)
    | some out => if (writeV out).2 ≠ 0 ∨ (writeV out).1 ≠ s then ([], 4) else (out, 0)
def readP (s : ByteArray) : List Vr × Int :=
  if 4096 < s.size then ([], 2) else match many stepP s.size (nums s) with
    | none => ([], 4)
    | some out => if (writeV out).2 ≠ 0 then ([], 4) else (out, 0)
theorem read_same (s : ByteArray) : readW s = readP s := by
  unfold readW readP
  split
  · rfl
  · cases hP : many stepP s.size (nums s) with
    | some L =>
      obtain ⟨h1, h2, h3⟩ := many_ok _ _ L hP (nums_bound s)
      rw [h1]
      simp only
      by_cases hz : (writeV L).2 = 0
      · have h4 := (writeV_zero hz).1
        rw [h2, strOf_nums] at h4
        rw [if_neg (by simp [hz, h4]), if_neg (by simp [hz])]
      · rw [if_pos (.inl hz), if_pos hz]
    | none =>
      cases hW : many stepW s.size (nums s) with
      | none => rfl
      | some out =>
        simp only
        by_cases hz : (writeV out).2 ≠ 0 ∨ (writeV out).1 ≠ s
        · rw [if_pos hz]
        · exfalso
          have hz1 : (writeV out).2 = 0 := Classical.byContradiction fun h => hz (.inl h)
          have hz2 : (writeV out).1 = s := Classical.byContradiction fun h => hz (.inr h)
          obtain ⟨h1, h2⟩ := writeV_zero hz1
          rw [hz2] at h1
          have h3 : nums s = varsI out := by rw [h1, nums_strOf (varsI_oct out)]
          have h4 := many_inv out s.size (by rw [← nums_length, h3]; exact varsI_len out) h2
          rw [h3, h4] at hP
          cases hP
end Go.Fw
end
section
namespace Go.Fw
def gIdx {α : Type} (p : α → Bool) (L : List α) : Int := if L.any p then (L.findIdx p : Nat) else -1
theorem gIdx_at {α : Type} {p : α → Bool} {L : List α} {j : Nat} {x : α} (hx : L[j]? = some x) (h : p x = true) (hb : ∀ y ∈ L.take j, p y = false) : gIdx p L = j := by
  obtain ⟨hj, rfl⟩ := List.getElem?_eq_some_iff.1 hx
  have ha : L.any p = true := List.any_eq_true.2 ⟨L[j], List.getElem_mem hj, h⟩
  have hf : L.findIdx p = j := by
    rw [List.findIdx_eq hj]
    refine ⟨h, fun i hi => ?_⟩
    have : L[i]'(by omega) ∈ L.take j := by
      rw [List.mem_take_iff_getElem]
      exact ⟨i, by omega, rfl⟩
    have h2 := hb _ this
    simpa using h2
  unfold gIdx
  rw [if_pos ha, hf]
theorem gIdx_no {α : Type} {p : α → Bool} {L : List α} (hb : ∀ y ∈ L, p y = false) : gIdx p L = -1 := by
  unfold gIdx
  rw [show L.any p = false from by rw [← Bool.not_eq_true, List.any_eq_true]; rintro ⟨x, hx, h⟩; rw [hb x hx] at h; cases h]
  rfl
theorem gIdx_ge {α : Type} (p : α → Bool) (L : List α) : decide (0 ≤ gIdx p L) = L.any p := by
  unfold gIdx
  cases L.any p <;> simp
theorem take_all {α : Type} {p : α → Bool} {L : List α} {j : Nat} {x : α} (hx : L[j]? = some x) (h : p x = false) (hb : ∀ y ∈ L.take j, p y = false) : ∀ y ∈ L.take (j + 1), p y = false := by
  obtain ⟨hj, rfl⟩ := List.getElem?_eq_some_iff.1 hx
  intro y hy
  rw [List.take_succ_eq_append_getElem hj, List.mem_append] at hy
  rcases hy with hy | hy
  · exact hb y hy
  · simp only [List.mem_singleton] at hy; subst hy; exact h
end Go.Fw
namespace Go.Proofs.YtflmckoolagikaaDoor
open Go Go.RowKit Go.Fw Go.Sx
set_option maxRecDepth 100000
set_option maxHeartbeats 1000000
attribute [local irreducible] SW SL SQ AtQ SV SC BB LD PK Yields SO SOT SOA SY
theorem idxVarG_sv (G : Ctx) (H : List Ent) (f : Nat) (caps : List Value) (p : Vr → Bool) (L : List Vr) {vs : List Value} (a : Option Addr) (n c : Nat) [h1 : RdC G H a vs] (hv : vs = vrs L) (hn : n = L.length) (hm : L.length ≤ maxLen) (hf : ∀ x, x ∈ L → SV Tryd.prog G f (vrV x :: caps) H (.bool (p x))) : SV Tryd.prog G 149 [.slice a n c, .func (.func f) #[] caps.toArray] H (.int .i64 (gIdx p L)) := by
  have Hn := Lib.hid hn
  have hbn : n ≤ 9223372036854775807 := by unfold maxLen at hm; omega
  have hix : ∀ (k : Nat) x, L[k]? = some x → take? (vs.drop ((k : Int).toNat * 4)) 4 = some (vrC x) := fun k x hk => by subst hv; exact fm_elem hk
  have hlx : vs.length = n * 4 := by subst hv; simp [hn]
  have hfk : ∀ (k : Nat) x, L[k]? = some x → SV Tryd.prog G f (vrV x :: caps) H (.bool (p x)) := fun k x hk => hf x (List.mem_of_getElem? hk)
  have Hix := Lib.hid hix
  have Hfk := Lib.hid hfk
  clear hix hf hfk hn hm hv
  refine sv_enter2 Tryd.func149 rfl rfl rfl rfl rfl ?_
  repeat' (first | (apply g_sl; first | (apply ks_nil; refine sl_nil ?_) | (apply ks_move; refine s_move rfl rfl ?_) | (apply ks_bin; refine s_bin rfl rfl rfl ?_; first | fail | (first | (apply kb_add; first | refine bb_add ⟨by omega, by omega⟩ ?_ | refine bb_of rfl ?_) | refine bb_of rfl ?_)) | (apply ks_load; first | (refine s_load rfl rfl ?_; first | refine ld_cell rfl ?_ | refine ld_whole rfl ?_ | refine ld_elem rfl ?_ | refine ld_part rfl rfl ?_) | fail) | (apply ks_asgn; refine s_asgn rfl rfl ?_) | (apply ks_indexA; first | refine s_indexA (c_indexAddr rfl rfl rfl rfl (by omega) (by omega)) rfl ?_ | fail) | (apply ks_fn; first | fail) | (apply ks_bi; first | fail | refine s_call (c_len rfl rfl) rfl ?_ | refine s_call (c_len_str rfl rfl) rfl ?_ | refine s_call (c_bi rfl rfl rfl rfl) rfl ?_ | refine c_append rfl rfl rfl rfl (by first | rfl | simp [ints]) (by first | rfl | exact ints_one _ | exact octs_one _ | exact strs_one _) (by omega) rfl rfl (fun _ _ => ?_) | refine c_append_nil rfl rfl rfl rfl (by first | rfl | simp [ints]) (by first | rfl | exact ints_one _ | exact octs_one _ | exact strs_one _) (by omega) rfl rfl (fun _ _ => ?_)) | fail) | (apply sw_seq) | (apply at_srd) | (apply sw_skip) | (apply sw_ret) | (apply sw_exit) | (apply sw_block) | (apply sw_region) | (refine sw_cd rfl ?_; first | (apply gd_t) | (apply gd_ft) | (apply gd_tf) | (apply gd_dec_t <;> intro hq <;> (try (exfalso; omega))) | (apply gd_dec_f <;> intro hq <;> (try (exfalso; omega))) | (apply gd_beq_t <;> intro hq <;> (try (exfalso; omega))) | (apply gd_beq_f <;> intro hq <;> (try (exfalso; omega))) | (apply gd_bne_t <;> intro hq <;> (try (exfalso; omega))) | (apply gd_bne_f <;> intro hq <;> (try (exfalso; omega))) | (apply gd_not_t <;> intro hq) | (apply gd_not_f <;> intro hq) | (apply gd_raw_t <;> intro hq) | (apply gd_raw_f <;> intro hq)) | (apply at_thn) | (apply at_thn_ret) | (apply at_thn_exit) | (apply at_inb) | (apply at_inb_ret) | (apply at_inb_exit) | refine at_inb_pass rfl ?_ | refine c_drawn (by kernel_rfl) ?_)
  refine sw_loopg (α := Nat) (fun j => [(0, .slice a n c), (1, .func (.func f) #[] caps.toArray), (7, .int .i64 n), (8, .int .i64 j)]) (fun _ => H)
    (fun j => j ≤ n ∧ ∀ y ∈ L.take j, p y = false) (fun j => n - j) 0 ⟨Nat.zero_le _, fun y hy => by simp at hy⟩ (by repeat (first | exact Le.nil _ | refine Le.cons (by first | rfl | (exact congrArg some (congrArg (Value.int _) (by omega)))) ?_)) (fun _ hw => hw.subs (by repeat (first | refine Subs.cons (by repeat constructor) ?_ | exact Subs.sub (by repeat (first | exact List.Sublist.refl _ | exact List.nil_sublist _ | refine List.Sublist.cons _ ?_))))) ?_
  rintro j ⟨hj, hs⟩
  have Hs := Lib.hid hs
  clear hs
  by_cases hlt : (j : Int) < n
  · obtain ⟨x, hx⟩ := get_of (X := L) (k := j) (by rw [← Hn.out]; omega)
    have hxj := Hix.out j x hx
    have hc := Hfk.out j x hx
    have Hx := Lib.hid hx
    clear hx
    cases hp : p x
    · rw [hp] at hc
      repeat' (first | (apply g_sl; first | (apply ks_nil; refine sl_nil ?_) | (apply ks_move; refine s_move rfl rfl ?_) | (apply ks_bin; refine s_bin rfl rfl rfl ?_; first | first | (refine s_indexA (c_indexAddr rfl rfl rfl hlx (by omega) (by omega)) rfl ?_) | (refine s_load rfl rfl ?_; first | refine ld_elem hxj ?_ | refine ld_elems hxj rfl ?_) | (refine c_calldv rfl rfl rfl rfl hc rfl rfl ?_) | (first | (apply kb_add; first | refine bb_add ⟨by omega, by omega⟩ ?_ | refine bb_of rfl ?_) | refine bb_of rfl ?_)) | (apply ks_load; first | (refine s_load rfl rfl ?_; first | refine ld_cell rfl ?_ | refine ld_whole rfl ?_ | refine ld_elem rfl ?_ | refine ld_part rfl rfl ?_) | first | (refine s_indexA (c_indexAddr rfl rfl rfl hlx (by omega) (by omega)) rfl ?_) | (refine s_load rfl rfl ?_; first | refine ld_elem hxj ?_ | refine ld_elems hxj rfl ?_) | (refine c_calldv rfl rfl rfl rfl hc rfl rfl ?_)) | (apply ks_asgn; refine s_asgn rfl rfl ?_) | (apply ks_indexA; first | refine s_indexA (c_indexAddr rfl rfl rfl rfl (by omega) (by omega)) rfl ?_ | first | (refine s_indexA (c_indexAddr rfl rfl rfl hlx (by omega) (by omega)) rfl ?_) | (refine s_load rfl rfl ?_; first | refine ld_elem hxj ?_ | refine ld_elems hxj rfl ?_) | (refine c_calldv rfl rfl rfl rfl hc rfl rfl ?_)) | (apply ks_fn; first | fail) | (apply ks_bi; first | first | (refine s_indexA (c_indexAddr rfl rfl rfl hlx (by omega) (by omega)) rfl ?_) | (refine s_load rfl rfl ?_; first | refine ld_elem hxj ?_ | refine ld_elems hxj rfl ?_) | (refine c_calldv rfl rfl rfl rfl hc rfl rfl ?_) | refine s_call (c_len rfl rfl) rfl ?_ | refine s_call (c_len_str rfl rfl) rfl ?_ | refine s_call (c_bi rfl rfl rfl rfl) rfl ?_ | refine c_append rfl rfl rfl rfl (by first | rfl | simp [ints]) (by first | rfl | exact ints_one _ | exact octs_one _ | exact strs_one _) (by omega) rfl rfl (fun _ _ => ?_) | refine c_append_nil rfl rfl rfl rfl (by first | rfl | simp [ints]) (by first | rfl | exact ints_one _ | exact octs_one _ | exact strs_one _) (by omega) rfl rfl (fun _ _ => ?_)) | first | (refine s_indexA (c_indexAddr rfl rfl rfl hlx (by omega) (by omega)) rfl ?_) | (refine s_load rfl rfl ?_; first | refine ld_elem hxj ?_ | refine ld_elems hxj rfl ?_) | (refine c_calldv rfl rfl rfl rfl hc rfl rfl ?_)) | (apply sw_seq) | (apply at_srd) | (apply sw_skip) | (apply sw_ret) | (apply sw_exit) | (apply sw_block) | (apply sw_region) | (refine sw_cd rfl ?_; first | (apply gd_t) | (apply gd_ft) | (apply gd_tf) | (apply gd_dec_t <;> intro hq <;> (try (exfalso; omega))) | (apply gd_dec_f <;> intro hq <;> (try (exfalso; omega))) | (apply gd_beq_t <;> intro hq <;> (try (exfalso; omega))) | (apply gd_beq_f <;> intro hq <;> (try (exfalso; omega))) | (apply gd_bne_t <;> intro hq <;> (try (exfalso; omega))) | (apply gd_bne_f <;> intro hq <;> (try (exfalso; omega))) | (apply gd_not_t <;> intro hq) | (apply gd_not_f <;> intro hq) | (apply gd_raw_t <;> intro hq) | (apply gd_raw_f <;> intro hq)) | (apply at_thn) | (apply at_thn_ret) | (apply at_thn_exit) | (apply at_inb) | (apply at_inb_ret) | (apply at_inb_exit) | refine at_inb_pass rfl ?_ | refine c_drawn (by kernel_rfl) ?_)
      exact at_meet (j + 1) ⟨⟨by omega, take_all Hx.out hp Hs.out⟩, by omega⟩ (by repeat (first | exact Le.nil _ | refine Le.cons (by first | rfl | (exact congrArg some (congrArg (Value.int _) (by omega)))) ?_)) (fun _ hw => hw.subs (by repeat (first | refine Subs.cons (by repeat constructor) ?_ | exact Subs.sub (by repeat (first | exact List.Sublist.refl _ | exact List.nil_sublist _ | refine List.Sublist.cons _ ?_)))))
    · rw [hp] at hc
      repeat' (first | (apply g_sl; first | (apply ks_nil; refine sl_nil ?_) | (apply ks_move; refine s_move rfl rfl ?_) | (apply ks_bin; refine s_bin rfl rfl rfl ?_; first | first | (refine s_indexA (c_indexAddr rfl rfl rfl hlx (by omega) (by omega)) rfl ?_) | (refine s_load rfl rfl ?_; first | refine ld_elem hxj ?_ | refine ld_elems hxj rfl ?_) | (refine c_calldv rfl rfl rfl rfl hc rfl rfl ?_) | (first | (apply kb_add; first | refine bb_add ⟨by omega, by omega⟩ ?_ | refine bb_of rfl ?_) | refine bb_of rfl ?_)) | (apply ks_load; first | (refine s_load rfl rfl ?_; first | refine ld_cell rfl ?_ | refine ld_whole rfl ?_ | refine ld_elem rfl ?_ | refine ld_part rfl rfl ?_) | first | (refine s_indexA (c_indexAddr rfl rfl rfl hlx (by omega) (by omega)) rfl ?_) | (refine s_load rfl rfl ?_; first | refine ld_elem hxj ?_ | refine ld_elems hxj rfl ?_) | (refine c_calldv rfl rfl rfl rfl hc rfl rfl ?_)) | (apply ks_asgn; refine s_asgn rfl rfl ?_) | (apply ks_indexA; first | refine s_indexA (c_indexAddr rfl rfl rfl rfl (by omega) (by omega)) rfl ?_ | first | (refine s_indexA (c_indexAddr rfl rfl rfl hlx (by omega) (by omega)) rfl ?_) | (refine s_load rfl rfl ?_; first | refine ld_elem hxj ?_ | refine ld_elems hxj rfl ?_) | (refine c_calldv rfl rfl rfl rfl hc rfl rfl ?_)) | (apply ks_fn; first | fail) | (apply ks_bi; first | first | (refine s_indexA (c_indexAddr rfl rfl rfl hlx (by omega) (by omega)) rfl ?_) | (refine s_load rfl rfl ?_; first | refine ld_elem hxj ?_ | refine ld_elems hxj rfl ?_) | (refine c_calldv rfl rfl rfl rfl hc rfl rfl ?_) | refine s_call (c_len rfl rfl) rfl ?_ | refine s_call (c_len_str rfl rfl) rfl ?_ | refine s_call (c_bi rfl rfl rfl rfl) rfl ?_ | refine c_append rfl rfl rfl rfl (by first | rfl | simp [ints]) (by first | rfl | exact ints_one _ | exact octs_one _ | exact strs_one _) (by omega) rfl rfl (fun _ _ => ?_) | refine c_append_nil rfl rfl rfl rfl (by first | rfl | simp [ints]) (by first | rfl | exact ints_one _ | exact octs_one _ | exact strs_one _) (by omega) rfl rfl (fun _ _ => ?_)) | first | (refine s_indexA (c_indexAddr rfl rfl rfl hlx (by omega) (by omega)) rfl ?_) | (refine s_load rfl rfl ?_; first | refine ld_elem hxj ?_ | refine ld_elems hxj rfl ?_) | (refine c_calldv rfl rfl rfl rfl hc rfl rfl ?_)) | (apply sw_seq) | (apply at_srd) | (apply sw_skip) | (apply sw_ret) | (apply sw_exit) | (apply sw_block) | (apply sw_region) | (refine sw_cd rfl ?_; first | (apply gd_t) | (apply gd_ft) | (apply gd_tf) | (apply gd_dec_t <;> intro hq <;> (try (exfalso; omega))) | (apply gd_dec_f <;> intro hq <;> (try (exfalso; omega))) | (apply gd_beq_t <;> intro hq <;> (try (exfalso; omega))) | (apply gd_beq_f <;> intro hq <;> (try (exfalso; omega))) | (apply gd_bne_t <;> intro hq <;> (try (exfalso; omega))) | (apply gd_bne_f <;> intro hq <;> (try (exfalso; omega))) | (apply gd_not_t <;> intro hq) | (apply gd_not_f <;> intro hq) | (apply gd_raw_t <;> intro hq) | (apply gd_raw_f <;> intro hq)) | (apply at_thn) | (apply at_thn_ret) | (apply at_thn_exit) | (apply at_inb) | (apply at_inb_ret) | (apply at_inb_exit) | refine at_inb_pass rfl ?_ | refine c_drawn (by kernel_rfl) ?_)
      refine e_sv (by first | exact .inl rfl | exact .inr rfl) rfl (by repeat (first | exact List.Sublist.refl _ | exact List.nil_sublist _ | refine List.Sublist.cons _ ?_)) ?_
      rw [gIdx_at Hx.out hp Hs.out]
      rfl
  · obtain rfl : j = n := by omega
    repeat' (first | (apply g_sl; first | (apply ks_nil; refine sl_nil ?_) | (apply ks_move; refine s_move rfl rfl ?_) | (apply ks_bin; refine s_bin rfl rfl rfl ?_; first | fail | (first | (apply kb_add; first | refine bb_add ⟨by omega, by omega⟩ ?_ | refine bb_of rfl ?_) | refine bb_of rfl ?_)) | (apply ks_load; first | (refine s_load rfl rfl ?_; first | refine ld_cell rfl ?_ | refine ld_whole rfl ?_ | refine ld_elem rfl ?_ | refine ld_part rfl rfl ?_) | fail) | (apply ks_asgn; refine s_asgn rfl rfl ?_) | (apply ks_indexA; first | refine s_indexA (c_indexAddr rfl rfl rfl rfl (by omega) (by omega)) rfl ?_ | fail) | (apply ks_fn; first | fail) | (apply ks_bi; first | fail | refine s_call (c_len rfl rfl) rfl ?_ | refine s_call (c_len_str rfl rfl) rfl ?_ | refine s_call (c_bi rfl rfl rfl rfl) rfl ?_ | refine c_append rfl rfl rfl rfl (by first | rfl | simp [ints]) (by first | rfl | exact ints_one _ | exact octs_one _ | exact strs_one _) (by omega) rfl rfl (fun _ _ => ?_) | refine c_append_nil rfl rfl rfl rfl (by first | rfl | simp [ints]) (by first | rfl | exact ints_one _ | exact octs_one _ | exact strs_one _) (by omega) rfl rfl (fun _ _ => ?_)) | fail) | (apply sw_seq) | (apply at_srd) | (apply sw_skip) | (apply sw_ret) | (apply sw_exit) | (apply sw_block) | (apply sw_region) | (refine sw_cd rfl ?_; first | (apply gd_t) | (apply gd_ft) | (apply gd_tf) | (apply gd_dec_t <;> intro hq <;> (try (exfalso; omega))) | (apply gd_dec_f <;> intro hq <;> (try (exfalso; omega))) | (apply gd_beq_t <;> intro hq <;> (try (exfalso; omega))) | (apply gd_beq_f <;> intro hq <;> (try (exfalso; omega))) | (apply gd_bne_t <;> intro hq <;> (try (exfalso; omega))) | (apply gd_bne_f <;> intro hq <;> (try (exfalso; omega))) | (apply gd_not_t <;> intro hq) | (apply gd_not_f <;> intro hq) | (apply gd_raw_t <;> intro hq) | (apply gd_raw_f <;> intro hq)) | (apply at_thn) | (apply at_thn_ret) | (apply at_thn_exit) | (apply at_inb) | (apply at_inb_ret) | (apply at_inb_exit) | refine at_inb_pass rfl ?_ | refine c_drawn (by kernel_rfl) ?_)
    refine e_sv (by first | exact .inl rfl | exact .inr rfl) rfl (by repeat (first | exact List.Sublist.refl _ | exact List.nil_sublist _ | refine List.Sublist.cons _ ?_)) ?_
    rw [gIdx_no (by rw [Hn.out, List.take_length] at Hs; exact Hs.out)]
    rfl
theorem hasVarG_sv (G : Ctx) (H : List Ent) (f : Nat) (caps : List Value) (p : Vr → Bool) (L : List Vr) {vs : List Value} (a : Option Addr) (n c : Nat) [h1 : RdC G H a vs] (hv : vs = vrs L) (hn : n = L.length) (hm : L.length ≤ maxLen) (hf : ∀ x, x ∈ L → SV Tryd.prog G f (vrV x :: caps) H (.bool (p x))) : SV Tryd.prog G 100 [.slice a n c, .func (.func f) #[] caps.toArray] H (.bool (L.any p)) := by
  have hc := idxVarG_sv G H f caps p L a n c hv hn hm hf
  rw [← gIdx_ge]
  generalize gIdx p L = r at *
  clear hf
  refine sv_enter2 Tryd.func100 rfl rfl rfl rfl rfl ?_
  repeat' (first | (apply g_sl; first | (apply ks_nil; refine sl_nil ?_) | (apply ks_move; refine s_move rfl rfl ?_) | (apply ks_bin; refine s_bin rfl rfl rfl ?_; first | fail | (first | refine bb_of rfl ?_)) | (apply ks_asgn; refine s_asgn rfl rfl ?_) | (apply ks_fn; first | refine c_callv rfl rfl rfl (hc) rfl rfl ?_) | fail) | (apply sw_seq) | (apply at_srd) | (apply sw_skip) | (apply sw_ret) | (apply sw_exit) | (apply sw_block) | (apply sw_region) | (refine sw_cd rfl ?_; first | (apply gd_t) | (apply gd_ft) | (apply gd_tf) | (apply gd_dec_t <;> intro hq <;> (try (exfalso; omega))) | (apply gd_dec_f <;> intro hq <;> (try (exfalso; omega))) | (apply gd_beq_t <;> intro hq <;> (try (exfalso; omega))) | (apply gd_beq_f <;> intro hq <;> (try (exfalso; omega))) | (apply gd_bne_t <;> intro hq <;> (try (exfalso; omega))) | (apply gd_bne_f <;> intro hq <;> (try (exfalso; omega))) | (apply gd_not_t <;> intro hq) | (apply gd_not_f <;> intro hq) | (apply gd_raw_t <;> intro hq) | (apply gd_raw_f <;> intro hq)) | (apply at_thn) | (apply at_thn_ret) | (apply at_thn_exit) | (apply at_inb) | (apply at_inb_ret) | (apply at_inb_exit) | refine at_inb_pass rfl ?_ | refine c_drawn (by kernel_rfl) ?_)
  refine e_sv (by first | exact .inl rfl | exact .inr rfl) rfl (by repeat (first | exact List.Sublist.refl _ | exact List.nil_sublist _ | refine List.Sublist.cons _ ?_)) ?_
  first | exact rb_t (by omega) | exact rb_f (by omega) | exact rb_d (by omega) | exact rb_n (by omega)
end Go.Proofs.YtflmckoolagikaaDoor
end
section
namespace Go.Sx
open Go Go.RowKit Go.Fw
section
variable {P : Program} {G : Ctx} {n : Sz} {ops : Array Oper} {Q : Post} {s : Fm} {H : List Ent} {o : Oper} {rest : List Oper}
end
end Go.Sx
namespace Go.Sx
open Go Go.RowKit Go.Fw
section
variable {P : Program} {G : Ctx} {n : Sz} {ops : Array Oper} {Q : Post} {s : Fm} {H : List Ent} {o : Oper} {rest : List Oper}
end
end Go.Sx
namespace Go.Sx
open Go Go.RowKit Go.Fw
class PickObj (H : List Ent) (g : Nat) (o : outParam Obj) (H' : outParam (List Ent)) : Prop where
  here : Pick (.obj g o) H H'
instance (priority := low) pickObjTail {H H' : List Ent} {g : Nat} {o : Obj} {x : Ent} [h : PickObj H g o H'] : PickObj (x :: H) g o (x :: H') := ⟨.there h.here⟩
instance pickObjHead {H : List Ent} {g : Nat} {o : Obj} : PickObj (.obj g o :: H) g o H := ⟨.here _⟩
section
variable {P : Program} {G : Ctx} {n : Sz} {ops : Array Oper} {Q : Post} {s : Fm} {H : List Ent} {o : Oper} {rest : List Oper}
/-- A byte of a text, by its value. -/
theorem c_indexNumV {t : Nat} {x y : Operand} {k : IntKind} {i v : Int} {b : ByteArray} (hv : (nums b).getD i.toNat 0 = v) (ho : o.op = .index t x y) [h : StrT P t] (hx : ev s x = some (.string b)) (hy : ev s y = some (.int k i)) (h0 : 0 ≤ i) (hi : i < b.size) : Yields P G n s H o (.int .u8 v) := hv ▸ c_indexNum ho hx hy h0 hi
/-- A piece of a text, by its value. -/
theorem c_sliceStrV {t : TypeId} {x : Operand} {lo hi : Option Operand} {b v : ByteArray} {l h : Int} (hv : b.extract l.toNat h.toNat = v) (ho : o.op = .slice t x lo hi none) [ht : StrT P t] (hx : ev s x = some (.string b)) (hl : bnd s 0 lo = some l) (hh : bnd s b.size hi = some h) (h0 : 0 ≤ l) (h1 : l ≤ h) (h2 : h ≤ b.size) : Yields P G n s H o (.string v) := hv ▸ c_sliceStr ho hx hl hh h0 h1 h2
end
end Go.Sx
namespace Go.Sx
open Go Go.RowKit Go.Fw
section
variable {P : Program} {G : Ctx} {n : Sz} {ops : Array Oper} {Q : Post} {s : Fm} {H : List Ent} {o : Oper} {rest : List Oper}
end
theorem bb_catV {P : Program} {K : Value → Prop} {x y : Operand} {t : TypeId} {a b r : ByteArray} (hr : a ++ b = r) (h : a.size + b.size ≤ 9223372036854775807) (hk : K (.string r)) : BB P .add t x y (.string a) (.string b) K := bb_cat h (hr ▸ hk)
end Go.Sx
namespace Go.Sx
open Go Go.RowKit Go.Fw
end Go.Sx
namespace Go.Sx
open Go Go.RowKit Go.Fw
end Go.Sx
namespace Go.Sx
open Go Go.RowKit Go.Fw
section
variable {P : Program} {ops : Array Oper} {Q : Exit → Act → World → Prop} {md : Region.Mode}
variable {S : Array Bool → World → Prop}
end
section
variable {P : Program} {G : Ctx} {n : Sz} {ops : Array Oper} {Q : Post} {s : Fm} {H H1 Hs : List Ent} {o : Oper} {fuel st : Nat} {done : List Nat}
end
end Go.Sx
namespace Go.Sx
open Go Go.RowKit Go.Fw
def rowObj (e : TypeId) (cs : List Value) : Obj := .cells cs.toArray e (cs.length, cs.length + 1)
/-- A row of bytes: what is held, where it lies, how long it is. -/
inductive BufE (e : TypeId) : Ent → Option Addr → Nat → Nat → List Int → Prop where
  | own (a : Option Addr) (n c : Nat) (xs : List Int) : BufE e (.own e 1 a n c (octs xs)) a n c xs
  | obj (g n c : Nat) (xs : List Int) (tl : List Value) (hn : n = xs.length) (hc : c = n + tl.length) (hm : c ≤ maxLen) : BufE e (.obj g (rowObj e (octs xs ++ tl))) (some ⟨g, 0, none⟩) n c xs
class PickE (H : List Ent) (X : Ent) (H' : outParam (List Ent)) : Prop where
  here : Pick X H H'
instance (priority := low) pickETail {H H' : List Ent} {X x : Ent} [h : PickE H X H'] : PickE (x :: H) X (x :: H') := ⟨.there h.here⟩
instance pickEHead {H : List Ent} {X : Ent} : PickE (X :: H) X H := ⟨.here _⟩
section
variable {P : Program} {G : Ctx} {n : Sz} {ops : Array Oper} {Q : Post} {s : Fm} {H : List Ent} {o : Oper} {rest : List Oper}
theorem BufE.len {e : TypeId} {X : Ent} {a : Option Addr} {m c : Nat} {xs : List Int} (h : BufE e X a m c xs) {w : World} (hw : Holds G (X :: H) w) : m = xs.length := by
  cases h with
  | own =>
    have := (hw.ok _ List.mem_cons_self : w.ownsRow G.B e 1 (.slice a m c) m (octs xs)).1
    simp [octs] at this
    exact this.symm
  | obj g n c xs tl hn hc hm => exact hn
end
end Go.Sx
end
section
namespace Go.Proofs.YtflmckoolagikaaDoor
open Go Go.RowKit Go.Fw Go.Sx
set_option maxRecDepth 100000
set_option maxHeartbeats 1000000
attribute [local irreducible] SW SL SQ AtQ SV SC BB LD PK Yields SO SOT SOA SY
theorem nums_lt (b : ByteArray) (i : Nat) : 0 ≤ (nums b).getD i 0 ∧ (nums b).getD i 0 ≤ 255 := by
  rcases Nat.lt_or_ge i (nums b).length with h | h
  · rw [List.getD_eq_getElem?_getD, List.getElem?_eq_getElem h]; exact nums_bound b _ (List.getElem_mem h)
  · rw [List.getD_eq_getElem?_getD, List.getElem?_eq_none h]; exact ⟨by decide, by decide⟩
end Go.Proofs.YtflmckoolagikaaDoor
end
section
namespace Go.Fw
/-- The first k letters of the first n are their last k. -/
def Bd (p : Nat → Int) (n k : Nat) : Prop := k ≤ n ∧ ∀ j, j < k → p j = p (n - k + j)
theorem Bd.zero (p : Nat → Int) (n : Nat) : Bd p n 0 := ⟨Nat.zero_le _, fun j hj => absurd hj (Nat.not_lt_zero _)⟩
theorem Bd.trans {p : Nat → Int} {n k j : Nat} (h : Bd p n k) (h' : Bd p k j) : Bd p n j := by
  obtain ⟨h1, h2⟩ := h
  obtain ⟨h3, h4⟩ := h'
  refine ⟨by omega, fun t ht => ?_⟩
  rw [h4 t ht, h2 (k - j + t) (by omega)]
  congr 1
  omega
theorem Bd.inner {p : Nat → Int} {n k j : Nat} (h : Bd p n k) (h' : Bd p n j) (hj : j ≤ k) : Bd p k j := by
  obtain ⟨h1, h2⟩ := h
  obtain ⟨h3, h4⟩ := h'
  refine ⟨hj, fun t ht => ?_⟩
  rw [h4 t ht, h2 (k - j + t) (by omega)]
  congr 1
  omega
theorem Bd.succ {p : Nat → Int} {n k : Nat} : Bd p (n + 1) (k + 1) ↔ Bd p n k ∧ p k = p n := by
  constructor
  · rintro ⟨h1, h2⟩
    refine ⟨⟨by omega, fun j hj => ?_⟩, ?_⟩
    · rw [h2 j (by omega)]; congr 1; omega
    · rw [h2 k (by omega)]; congr 1; omega
  · rintro ⟨⟨h1, h2⟩, h3⟩
    refine ⟨by omega, fun j hj => ?_⟩
    rcases Nat.lt_or_ge j k with h | h
    · rw [h2 j h]; congr 1; omega
    · obtain rfl : j = k := by omega
      rw [h3]; congr 1; omega
/-- The longest border that is shorter than the word. -/
def IsB (p : Nat → Int) (n k : Nat) : Prop := k < n ∧ Bd p n k ∧ ∀ j, j < n → Bd p n j → j ≤ k
theorem IsB.one (p : Nat → Int) : IsB p 1 0 := ⟨Nat.zero_lt_one, Bd.zero p 1, fun j hj _ => by omega⟩
/-- What holds on the way from n letters to n + 1. -/
def OnWay (p : Nat → Int) (n k : Nat) : Prop := k < n ∧ Bd p n k ∧ ∀ j, j < n → Bd p n j → p j = p n → j ≤ k
theorem OnWay.step {p : Nat → Int} {n k k' : Nat} (h : OnWay p n k) (hne : ¬ p n = p k) (hk : IsB p k k') : OnWay p n k' := by
  obtain ⟨h1, h2, h3⟩ := h
  obtain ⟨g1, g2, g3⟩ := hk
  refine ⟨by omega, h2.trans g2, fun j hj hb hp => ?_⟩
  have hle := h3 j hj hb hp
  have hlt : j < k := by
    rcases Nat.lt_or_ge j k with h | h
    · exact h
    · obtain rfl : j = k := by omega
      exact absurd hp.symm hne
  exact g3 j hlt (h2.inner hb hle)
theorem OnWay.no {p : Nat → Int} {n : Nat} (h : OnWay p n 0) (hne : ¬ p n = p 0) : IsB p (n + 1) 0 := by
  obtain ⟨h1, h2, h3⟩ := h
  refine ⟨by omega, Bd.zero _ _, fun j hj hb => ?_⟩
  cases j with
  | zero => omega
  | succ j =>
    obtain ⟨g1, g2⟩ := Bd.succ.1 hb
    have h0 := h3 j (by omega) g1 g2
    obtain rfl : j = 0 := by omega
    exact absurd g2.symm hne
end Go.Fw
namespace Go.Fw
/-- The first k letters of the word are the last k of the first i of the text. -/
def Mt (p t : Nat → Int) (i k : Nat) : Prop := k ≤ i ∧ ∀ j, j < k → p j = t (i - k + j)
theorem Mt.zero (p t : Nat → Int) (i : Nat) : Mt p t i 0 := ⟨Nat.zero_le _, fun j hj => absurd hj (Nat.not_lt_zero _)⟩
theorem Mt.trans {p t : Nat → Int} {i k j : Nat} (h : Mt p t i k) (h' : Bd p k j) : Mt p t i j := by
  obtain ⟨h1, h2⟩ := h
  obtain ⟨h3, h4⟩ := h'
  refine ⟨by omega, fun u hu => ?_⟩
  rw [h4 u hu, h2 (k - j + u) (by omega)]
  congr 1
  omega
theorem Mt.inner {p t : Nat → Int} {i k j : Nat} (h : Mt p t i k) (h' : Mt p t i j) (hj : j ≤ k) : Bd p k j := by
  obtain ⟨h1, h2⟩ := h
  obtain ⟨h3, h4⟩ := h'
  refine ⟨hj, fun u hu => ?_⟩
  rw [h4 u hu, h2 (k - j + u) (by omega)]
  congr 1
  omega
theorem Mt.succ {p t : Nat → Int} {i k : Nat} : Mt p t (i + 1) (k + 1) ↔ Mt p t i k ∧ p k = t i := by
  constructor
  · rintro ⟨h1, h2⟩
    refine ⟨⟨by omega, fun j hj => ?_⟩, ?_⟩
    · rw [h2 j (by omega)]; congr 1; omega
    · rw [h2 k (by omega)]; congr 1; omega
  · rintro ⟨⟨h1, h2⟩, h3⟩
    refine ⟨by omega, fun j hj => ?_⟩
    rcases Nat.lt_or_ge j k with h | h
    · rw [h2 j h]; congr 1; omega
    · obtain rfl : j = k := by omega
      rw [h3]; congr 1; omega
def IsM (p t : Nat → Int) (n i k : Nat) : Prop := k ≤ n ∧ Mt p t i k ∧ ∀ j, j ≤ n → Mt p t i j → j ≤ k
theorem IsM.none (p t : Nat → Int) (n : Nat) : IsM p t n 0 0 := ⟨Nat.zero_le _, Mt.zero _ _ _, fun j _ h => by have := h.1; omega⟩
def OnM (p t : Nat → Int) (n i k : Nat) : Prop := k ≤ n ∧ Mt p t i k ∧ ∀ j, j < n → Mt p t i j → p j = t i → j ≤ k
theorem OnM.step {p t : Nat → Int} {n i k k' : Nat} (h : OnM p t n i k) (hne : k = n ∨ ¬ t i = p k) (hk : IsB p k k') : OnM p t n i k' := by
  obtain ⟨h1, h2, h3⟩ := h
  obtain ⟨g1, g2, g3⟩ := hk
  refine ⟨by omega, h2.trans g2, fun j hj hm hp => ?_⟩
  have hle := h3 j hj hm hp
  have hlt : j < k := by
    rcases Nat.lt_or_ge j k with h | h
    · exact h
    · obtain rfl : j = k := by omega
      rcases hne with hne | hne
      · omega
      · exact absurd hp.symm hne
  exact g3 j hlt (h2.inner hm hle)
theorem OnM.no {p t : Nat → Int} {n i : Nat} (h : OnM p t n i 0) (hne : ¬ t i = p 0) : IsM p t n (i + 1) 0 := by
  obtain ⟨h1, h2, h3⟩ := h
  refine ⟨Nat.zero_le _, Mt.zero _ _ _, fun j hj hm => ?_⟩
  cases j with
  | zero => omega
  | succ j =>
    obtain ⟨g1, g2⟩ := Mt.succ.1 hm
    have h0 := h3 j (by omega) g1 g2
    obtain rfl : j = 0 := by omega
    exact absurd g2.symm hne
end Go.Fw
end
section
namespace Go.Proofs.YtflmckoolagikaaDoor
open Go Go.RowKit Go.Fw Go.Sx
theorem size_nil {s : ByteArray} (h : s.size = 0) : s = ⟨#[]⟩ := by
  obtain ⟨d⟩ := s
  congr 1
  exact Array.eq_empty_of_size_eq_zero h
end Go.Proofs.YtflmckoolagikaaDoor
end
section
namespace Go.Fw
open Go Go.RowKit Go.Sx
/-- Numbers of bytes. -/
def Oct (x : Int) : Prop := 0 ≤ x ∧ x ≤ 255
end Go.Fw
end
section
namespace Go.Proofs.YtflmckoolagikaaDoor
open Go.RowKit Go.Fw
theorem u8i : (Tryd.prog.info? 5).map (fun i => (i.zero, i.size, i.bytes)) = some (some (.int .u8 0), 1, 1) := by kernel_rfl
/-- Bytes of numbers. -/
def bytesOf (xs : List Int) : ByteArray := strOfNums (xs.map (· % 256))
def bytesAt (xs : List Int) (n k : Nat) : List Value := octs ((xs.take k).map (· % 256) ++ List.replicate (n - k) 0)
theorem bytesAt_zero (xs : List Int) (n : Nat) : (madeCells #[Value.int .u8 0] n).toList = bytesAt xs n 0 := by
  rw [toList_madeCells_one]; simp [bytesAt, octs]
theorem bytesAt_get (xs : List Int) (n k : Nat) (hn : n = xs.length) (hk : k < n) : (bytesAt xs n k)[k]? = some (.int .u8 0) := by
  unfold bytesAt octs
  rw [List.getElem?_map, List.getElem?_append_right (by simp; omega)]
  have : k - (List.map (fun x => x % 256) (List.take k xs)).length = 0 := by simp; omega
  rw [this]
  obtain ⟨m, hm⟩ : ∃ m, n - k = m + 1 := ⟨n - k - 1, by omega⟩
  rw [hm]; rfl
theorem bytesAt_set (xs : List Int) (n k : Nat) (hn : n = xs.length) (hk : k < n) : (bytesAt xs n k).set k (.int .u8 (xs[k]?.getD 0 % 256)) = bytesAt xs n (k + 1) := by
  unfold bytesAt octs
  have hk' : k < xs.length := by omega
  have e : List.take (k + 1) xs = List.take k xs ++ [xs[k]] := by rw [List.take_succ_eq_append_getElem hk']
  obtain ⟨m, hm⟩ : ∃ m, n - k = m + 1 := ⟨n - k - 1, by omega⟩
  rw [e, hm, show n - (k + 1) = m from by omega, List.map_append, List.set_append_right _ _ (by simp; omega)]
  have h0 : k - (List.map (Value.int .u8) (List.map (fun x => x % 256) (List.take k xs))).length = 0 := by simp; omega
  rw [h0, List.replicate_succ]
  rw [List.getElem?_eq_getElem hk']
  simp only [List.map_append, List.map_cons, List.map_nil, List.append_assoc, List.set_cons_zero, List.cons_append, List.nil_append, Option.getD_some]
theorem bytesAt_all (xs : List Int) (n : Nat) (hn : n = xs.length) : bytesAt xs n n = octs (xs.map (· % 256)) := by
  subst hn; simp [bytesAt]
set_option maxRecDepth 100000 in
theorem bytes_any (xs : List Int) (a : Option Addr) (n c : Nat) (w : World) (hn : n = xs.length) (hl : xs.length ≤ 100000) (hx : At w a (ints xs)) :
    Calls Tryd.prog 47 #[.slice a n c] w fun e w' => e = .returned (.string (bytesOf xs)) ∧ Below w.heap.size w w' := by
  obtain ⟨i0, hi, hz0, hz1, hz2⟩ := info_parts u8i
  have Hn := Lib.hid hn
  rw [← hn] at hl
  clear hn
  go_enter Tryd.func47, Tryd.ntmps47
  go_wp2_with (at_make; refine wpList_make_full _ rfl _ _ 92 rfl w.heap.size 5 i0 (.int .u8 0) 1 Tryd.underlying92 hi hz0 hz1 .i64 .i64 _ _ n rfl rfl rfl rfl ?c1 ?c2 ?c3 ?_)
  case c1 => rw [hz2]; omega
  case c2 => unfold maxLen; omega
  case c3 => exact Nat.le_refl _
  intro w1 hown hgr
  have hb1 : Below w.heap.size w w1 := (Below.refl _ w).grown hgr (Nat.le_refl _) (fun _ h => by cases h)
  go_wp2
  go_loopw [11] (fun i wr => ∃ k : Nat, k ≤ n ∧ i = .int .i64 k ∧ wr.ownsRow w.heap.size 5 1 (.slice (some ⟨w.heap.size, 0, none⟩) n n) n (bytesAt xs n k) ∧ Below w.heap.size w wr) (fun i _ => n - (intOf i).toNat)
  case atStart => exact ⟨0, Nat.zero_le _, rfl, by rw [← bytesAt_zero]; exact hown, hb1⟩
  case round =>
    clear hown hb1 hgr
    obtain ⟨k, hk, rfl, hown, hbl⟩ := hrel
    by_cases hlt : k < n
    · obtain ⟨b, o, ha, hb, hc⟩ := hx.int (i := k) (by rw [← Hn.out]; exact hlt)
      rw [ha]
      have hcx : wr.cell? ⟨b, o + k, none⟩ = some (.int .i64 (xs.getD k 0)) := (hbl.cell (by exact hb)).trans (hc k (by rw [← Hn.out]; exact hlt))
      have hcg : wr.cell? ⟨w.heap.size, k, none⟩ = some (.int .u8 0) := by rw [hown.cellAt k (by omega)]; exact bytesAt_get xs n k Hn.out hlt
      have hfg : wr.frozen? ⟨w.heap.size, k, none⟩ = false := hown.frozenAt k
      clear hc ha
      go_wp2
      go_roundw
      case rel => exact ⟨k + 1, by omega, by go_num, by rw [← bytesAt_set xs n k Hn.out hlt]; exact (hown.stored k _).1, hbl.setCell (Nat.le_refl _) _⟩
      case measure => simp [intOf]; omega
    · obtain rfl : k = n := by omega
      rw [bytesAt_all xs k Hn.out] at hown
      have hcv := run_convert_bytes_arg (P := Tryd.prog) wr 92 5 Tryd.underlying92 Tryd.underlying5 w.heap.size 0 k k (xs.map (· % 256)) (by rw [Hn.out]; simp)
        (fun i hi => by rw [Nat.zero_add, hown.cellAt i (by omega)]; simp [octs, List.getD, List.getElem?_eq_getElem (show i < xs.length by rw [← Hn.out]; exact hi)]) 9 Tryd.underlying9
      go_wp2
      go_ret
      exact ⟨rfl, hbl⟩
end Go.Proofs.YtflmckoolagikaaDoor
end
section
namespace Go.Proofs.YtflmckoolagikaaDoor
open Go Go.RowKit Go.Fw Go.Sx
set_option maxRecDepth 100000
set_option maxHeartbeats 2000000
attribute [local irreducible] SW SL SQ AtQ SV SC BB LD PK Yields SO SOT SOA SY
theorem bytes_sv (G : Ctx) (H : List Ent) (xs : List Int) {vs : List Value} (a : Option Addr) (n c : Nat) [h1 : RdC G H a vs] (hv : vs = ints xs) (hn : n = xs.length) (hl : xs.length ≤ 100000) (ho : ∀ x ∈ xs, Oct x) : SV Tryd.prog G 47 [.slice a n c] H (.string (strOfNums xs)) := by
  subst hv
  have e : bytesOf xs = strOfNums xs := by
    have : xs.map (· % 256) = xs := by
      refine (List.map_congr_left fun x hx => ?_).trans (List.map_id _)
      have := ho x hx
      show x % 256 = x
      exact Int.emod_eq_of_lt this.1 (by have := this.2; omega)
    first | (unfold bytesOf; rw [this]) | skip
  rw [← e]
  exact sv_of_calls (callee_of Tryd.func47 rfl rfl) fun w hw => bytes_any xs a n c w hn hl (h1.here w hw)
end Go.Proofs.YtflmckoolagikaaDoor
end
section
namespace Go.Proofs.YtflmckoolagikaaDoor
open Go.Shelf
def Tryd.lays99_ren : Go.Shelf.Ren := ⟨fun | 99 => 56 | 206 => 105 | n => n, fun | 9 => 9 | 4 => 4 | 3 => 3 | n => n, fun | n => n⟩
theorem Tryd.lays99 : Go.Proofs.Lays.n99 Tryd.prog Tryd.lays99_ren := {
  mixed := by kernel_rfl
  f99 := Tryd.func56.trans (congrArg some (by kernel_rfl))
  f206 := Tryd.func105.trans (congrArg some (by kernel_rfl))
  t3 := Tryd.underlying3
  a3 := Tryd.isAgg3
  z3 := Tryd.sizeOf3
  v3 := Tryd.zeroValue3
  t4 := Tryd.underlying4
  a4 := Tryd.isAgg4
  z4 := Tryd.sizeOf4
  v4 := Tryd.zeroValue4
  t9 := Tryd.underlying9
  a9 := Tryd.isAgg9
  z9 := Tryd.sizeOf9
  v9 := Tryd.zeroValue9 }
open Go.RowKit Go.Lib in
theorem Tryd.strings_HasPrefix (s p : ByteArray) (w : World) :
    Calls Tryd.prog 56 #[.string s, .string p] w fun e w' => e = .returned (.bool (Lib.hasPrefix s.data.toList p.data.toList)) ∧ w' = w := Any.strings_HasPrefix Tryd.lays99 s p w
def Tryd.lays155_ren : Go.Shelf.Ren := ⟨fun | 155 => 151 | 154 => 176 | 138 => 138 | 165 => 131 | 143 => 139 | 166 => 132 | 197 => 158 | 169 => 133 | 195 => 168 | 218 => 169 | 240 => 160 | 241 => 161 | 219 => 170 | 260 => 181 | 276 => 182 | 277 => 183 | 217 => 80 | 225 => 191 | 224 => 192 | 267 => 193 | 266 => 129 | 314 => 199 | n => n, fun | 9 => 9 | 3 => 3 | 4 => 4 | 72 => 176 | 0 => 0 | 76 => 114 | 105 => 187 | 21 => 21 | 5 => 5 | 70 => 174 | 20 => 20 | 37 => 92 | 75 => 113 | 127 => 208 | 164 => 227 | 46 => 116 | 119 => 70 | 139 => 181 | 138 => 180 | 146 => 230 | 51 => 226 | 80 => 177 | n => n, fun | 1 => 2 | 3 => 0 | 4 => 1 | n => n⟩
theorem Tryd.lays155 : Go.Proofs.Lays.n155 Tryd.prog Tryd.lays155_ren := {
  mixed := by kernel_rfl
  f138 := Tryd.func138.trans (congrArg some (by kernel_rfl))
  f143 := Tryd.func139.trans (congrArg some (by kernel_rfl))
  f154 := Tryd.func176.trans (congrArg some (by kernel_rfl))
  f155 := Tryd.func151.trans (congrArg some (by kernel_rfl))
  f165 := Tryd.func131.trans (congrArg some (by kernel_rfl))
  f166 := Tryd.func132.trans (congrArg some (by kernel_rfl))
  f169 := Tryd.func133.trans (congrArg some (by kernel_rfl))
  f195 := Tryd.func168.trans (congrArg some (by kernel_rfl))
  f197 := Tryd.func158.trans (congrArg some (by kernel_rfl))
  f217 := Tryd.func80.trans (congrArg some (by kernel_rfl))
  f218 := Tryd.func169.trans (congrArg some (by kernel_rfl))
  f219 := Tryd.func170.trans (congrArg some (by kernel_rfl))
  f224 := Tryd.func192.trans (congrArg some (by kernel_rfl))
  f225 := Tryd.func191.trans (congrArg some (by kernel_rfl))
  f240 := Tryd.func160.trans (congrArg some (by kernel_rfl))
  f241 := Tryd.func161.trans (congrArg some (by kernel_rfl))
  f260 := Tryd.func181.trans (congrArg some (by kernel_rfl))
  f266 := Tryd.func129.trans (congrArg some (by kernel_rfl))
  f267 := Tryd.func193.trans (congrArg some (by kernel_rfl))
  f276 := Tryd.func182.trans (congrArg some (by kernel_rfl))
  f277 := Tryd.func183.trans (congrArg some (by kernel_rfl))
  f314 := Tryd.func199.trans (congrArg some (by kernel_rfl))
  t0 := Tryd.underlying0
  a0 := Tryd.isAgg0
  z0 := Tryd.sizeOf0
  v0 := Tryd.zeroValue0
  t3 := Tryd.underlying3
  a3 := Tryd.isAgg3
  z3 := Tryd.sizeOf3
  v3 := Tryd.zeroValue3
  t4 := Tryd.underlying4
  a4 := Tryd.isAgg4
  z4 := Tryd.sizeOf4
  v4 := Tryd.zeroValue4
  t5 := Tryd.underlying5
  a5 := Tryd.isAgg5
  z5 := Tryd.sizeOf5
  v5 := Tryd.zeroValue5
  t9 := Tryd.underlying9
  a9 := Tryd.isAgg9
  z9 := Tryd.sizeOf9
  v9 := Tryd.zeroValue9
  t20 := Tryd.underlying20
  a20 := Tryd.isAgg20
  z20 := Tryd.sizeOf20
  v20 := Tryd.zeroValue20
  t21 := Tryd.underlying21
  a21 := Tryd.isAgg21
  z21 := Tryd.sizeOf21
  v21 := Tryd.zeroValue21
  t37 := Tryd.underlying92
  a37 := Tryd.isAgg92
  z37 := Tryd.sizeOf92
  v37 := Tryd.zeroValue92
  t46 := Tryd.underlying116
  a46 := Tryd.isAgg116
  z46 := Tryd.sizeOf116
  v46 := Tryd.zeroValue116
  t51 := Tryd.underlying226
  a51 := Tryd.isAgg226
  z51 := Tryd.sizeOf226
  v51 := Tryd.zeroValue226
  t70 := Tryd.underlying174
  a70 := Tryd.isAgg174
  z70 := Tryd.sizeOf174
  v70 := Tryd.zeroValue174
  t72 := Tryd.underlying176
  a72 := Tryd.isAgg176
  z72 := Tryd.sizeOf176
  v72 := Tryd.zeroValue176
  t75 := Tryd.underlying113
  a75 := Tryd.isAgg113
  z75 := Tryd.sizeOf113
  v75 := Tryd.zeroValue113
  t76 := Tryd.underlying114
  a76 := Tryd.isAgg114
  z76 := Tryd.sizeOf114
  v76 := Tryd.zeroValue114
  t105 := Tryd.underlying187
  a105 := Tryd.isAgg187
  z105 := Tryd.sizeOf187
  v105 := Tryd.zeroValue187
  t119 := Tryd.underlying70
  a119 := Tryd.isAgg70
  z119 := Tryd.sizeOf70
  t127 := Tryd.underlying208
  a127 := Tryd.isAgg208
  z127 := Tryd.sizeOf208
  v127 := Tryd.zeroValue208
  t138 := Tryd.underlying180
  a138 := Tryd.isAgg180
  z138 := Tryd.sizeOf180
  v138 := Tryd.zeroValue180
  t139 := Tryd.underlying181
  a139 := Tryd.isAgg181
  z139 := Tryd.sizeOf181
  v139 := Tryd.zeroValue181
  t146 := Tryd.underlying230
  a146 := Tryd.isAgg230
  z146 := Tryd.sizeOf230
  v146 := Tryd.zeroValue230
  t164 := Tryd.underlying227
  a164 := Tryd.isAgg227
  z164 := Tryd.sizeOf227
  v164 := Tryd.zeroValue227
  g1 := by kernel_rfl
  g3 := by kernel_rfl
  g4 := by kernel_rfl }
theorem Tryd.Builder_Extra_155 : Builder.Extra Tryd.prog Tryd.lays155_ren := {
  sizeBuilder := by kernel_rfl
  liesBuilder := by kernel_rfl
  t5 := Tryd.underlying5
  a5 := Tryd.isAgg5
  z5 := Tryd.sizeOf5
  v5 := Tryd.zeroValue5
  infoByte := by kernel_rfl
  cellsByte := by kernel_rfl
  sizeByte := by kernel_rfl
  neB5 := by decide }
open Go.RowKit Go.Lib in
theorem Tryd.strings_ReplaceAll (s old new : ByteArray) (m : Int) (w : World) (hs : s.size < 4294967281) (hm : w.cell? ⟨2, 0, none⟩ = some (.int .i64 m)) (h1 : 1 ≤ old.size) (hlen : s.size + Lib.countB s old * new.size ≤ 140737488355328) :
    Calls Tryd.prog 151 #[.string s, .string old, .string new] w fun e w' =>
      e = .returned (.string ⟨(Lib.replaceAll s.data.toList old.data.toList new.data.toList).toArray⟩) ∧ Below w.heap.size w w' := Any.strings_ReplaceAll Tryd.lays155 Tryd.Builder_Extra_155 s old new m w hs hm h1 hlen
end Go.Proofs.YtflmckoolagikaaDoor
end
