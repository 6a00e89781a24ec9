/- Texts of this claim, merged: Sxp CardM SxC SxD SxM SxN Cli1 About TabP TabU Width WidthSum KmpA Slices Cut Pen GridA GridB. -/
import Derived.Test.YtflmckoolagikaaDoorCn1
import Derived.WalkKit
import Derived.WalkSpells
import Derived.WalkLawsBesides
import Derived.Handy
import Derived.Lib.Hide
import Derived.Laws.BitsAllLaws
import Derived.Deep.MidRow
import Derived.Deep.WholeRow
import Derived.BigQuiet
import Derived.Laws.CopyOwn
import Derived.Deep.QuietTactic
import Derived.Laws.AppendOwnNone
import Derived.Laws.MakeOwn
import Derived.Laws.IdiomStrings
import Derived.OrdersHeld
import Derived.Lib.SliceRun
import Derived.ChangeKeysEq
import Derived.Laws.CopyRow
import Derived.Test.YtflmckoolagikaaDoorRows
import Derived.ProofKit
import Derived.OpenShut
import Derived.JoinedCond
import Derived.SliceStrings
import Derived.Test.YtflmckoolagikaaDoorCards
import Derived.Test.YtflmckoolagikaaDoorTie
import Derived.Deep.DeepHandedRow
import Derived.Shelf.Vars
import Derived.Lib.AppendStr
import Derived.ArgAppend
import Derived.Laws.RangeAny
import Derived.Maps.RangeRun
import Derived.StillTailTactics
import Derived.RegionTactic
import Derived.ChangeAlike
section
namespace Go.Proofs.YtflmckoolagikaaDoor
open Go Go.RowKit Go.Fw Go.Sx
set_option maxRecDepth 100000
instance : Wide Tryd.prog := ⟨by kernel_rfl⟩
instance : Sc Tryd.prog 1 := ⟨_, Tryd.underlying1, rfl, by kernel_rfl⟩
instance : ZeroT Tryd.prog 1 [.nilFunc] := ⟨.nilFunc, by kernel_rfl, .one rfl⟩
instance : Sc Tryd.prog 2 := ⟨_, Tryd.underlying2, rfl, by kernel_rfl⟩
instance : ZeroT Tryd.prog 2 [.int .i64 0] := ⟨.int .i64 0, by kernel_rfl, .one rfl⟩
instance : IntT Tryd.prog 2 .i64 := ⟨Tryd.underlying2⟩
instance : Sc Tryd.prog 3 := ⟨_, Tryd.underlying3, rfl, by kernel_rfl⟩
instance : ZeroT Tryd.prog 3 [.int .i64 0] := ⟨.int .i64 0, by kernel_rfl, .one rfl⟩
instance : IntT Tryd.prog 3 .i64 := ⟨Tryd.underlying3⟩
instance : Sc Tryd.prog 4 := ⟨_, Tryd.underlying4, rfl, by kernel_rfl⟩
instance : ZeroT Tryd.prog 4 [.bool false] := ⟨.bool false, by kernel_rfl, .one rfl⟩
instance : Sc Tryd.prog 5 := ⟨_, Tryd.underlying5, rfl, by kernel_rfl⟩
instance : ZeroT Tryd.prog 5 [.int .u8 0] := ⟨.int .u8 0, by kernel_rfl, .one rfl⟩
instance : IntT Tryd.prog 5 .u8 := ⟨Tryd.underlying5⟩
instance : Sc Tryd.prog 6 := ⟨_, Tryd.underlying6, rfl, by kernel_rfl⟩
instance : ZeroT Tryd.prog 6 [.int .u8 0] := ⟨.int .u8 0, by kernel_rfl, .one rfl⟩
instance : IntT Tryd.prog 6 .u8 := ⟨Tryd.underlying6⟩
instance : Ag Tryd.prog 7 4 := ⟨_, Tryd.underlying7, rfl, by kernel_rfl⟩
instance : FieldAt Tryd.prog 7 0 0 := ⟨_, _, 0, Tryd.underlying7, rfl, rfl, by kernel_rfl⟩
instance : FieldAt Tryd.prog 7 1 1 := ⟨_, _, 0, Tryd.underlying7, rfl, rfl, by kernel_rfl⟩
instance : FieldAt Tryd.prog 7 2 2 := ⟨_, _, 0, Tryd.underlying7, rfl, rfl, by kernel_rfl⟩
instance : FieldAt Tryd.prog 7 3 3 := ⟨_, _, 0, Tryd.underlying7, rfl, rfl, by kernel_rfl⟩
instance : OffsT Tryd.prog 7 [(0, 1), (1, 1), (2, 1), (3, 1)] [.int .i64 0, .int .i64 0, .bool false, .int .u8 0] := ⟨(([(0, 1), (1, 1), (2, 1), (3, 1)] : List (Nat × Nat)).toArray[·]?), fun _ => by kernel_rfl, fun i p h => by simpa using h⟩
instance : ZeroT Tryd.prog 7 [.int .i64 0, .int .i64 0, .bool false, .int .u8 0] := ⟨_, show still Tryd.prog (zeroValue 7) = some (.agg (List.toArray [.int .i64 0, .int .i64 0, .bool false, .int .u8 0])) by kernel_rfl, .agg _⟩
instance : Ag Tryd.prog 8 4 := ⟨_, Tryd.underlying8, rfl, by kernel_rfl⟩
instance : FieldAt Tryd.prog 8 0 0 := ⟨_, _, 0, Tryd.underlying8, rfl, rfl, by kernel_rfl⟩
instance : FieldAt Tryd.prog 8 1 1 := ⟨_, _, 0, Tryd.underlying8, rfl, rfl, by kernel_rfl⟩
instance : FieldAt Tryd.prog 8 2 2 := ⟨_, _, 0, Tryd.underlying8, rfl, rfl, by kernel_rfl⟩
instance : FieldAt Tryd.prog 8 3 3 := ⟨_, _, 0, Tryd.underlying8, rfl, rfl, by kernel_rfl⟩
instance : OffsT Tryd.prog 8 [(0, 1), (1, 1), (2, 1), (3, 1)] [.int .i64 0, .int .i64 0, .bool false, .int .u8 0] := ⟨(([(0, 1), (1, 1), (2, 1), (3, 1)] : List (Nat × Nat)).toArray[·]?), fun _ => by kernel_rfl, fun i p h => by simpa using h⟩
instance : ZeroT Tryd.prog 8 [.int .i64 0, .int .i64 0, .bool false, .int .u8 0] := ⟨_, show still Tryd.prog (zeroValue 8) = some (.agg (List.toArray [.int .i64 0, .int .i64 0, .bool false, .int .u8 0])) by kernel_rfl, .agg _⟩
instance : Sc Tryd.prog 9 := ⟨_, Tryd.underlying9, rfl, by kernel_rfl⟩
instance : ZeroT Tryd.prog 9 [.string .empty] := ⟨.string .empty, by kernel_rfl, .one rfl⟩
instance : StrT Tryd.prog 9 := ⟨Tryd.underlying9⟩
instance : Sc Tryd.prog 10 := ⟨_, Tryd.underlying10, rfl, by kernel_rfl⟩
instance : ZeroT Tryd.prog 10 [.string .empty] := ⟨.string .empty, by kernel_rfl, .one rfl⟩
instance : StrT Tryd.prog 10 := ⟨Tryd.underlying10⟩
instance : Sc Tryd.prog 11 := ⟨_, Tryd.underlying11, rfl, by kernel_rfl⟩
instance : ZeroT Tryd.prog 11 [.string .empty] := ⟨.string .empty, by kernel_rfl, .one rfl⟩
instance : StrT Tryd.prog 11 := ⟨Tryd.underlying11⟩
instance : Sc Tryd.prog 12 := ⟨_, Tryd.underlying12, rfl, by kernel_rfl⟩
instance : ZeroT Tryd.prog 12 [.int .u64 0] := ⟨.int .u64 0, by kernel_rfl, .one rfl⟩
instance : IntT Tryd.prog 12 .u64 := ⟨Tryd.underlying12⟩
instance : Ag Tryd.prog 13 2 := ⟨_, Tryd.underlying13, rfl, by kernel_rfl⟩
instance : FieldAt Tryd.prog 13 0 0 := ⟨_, _, 0, Tryd.underlying13, rfl, rfl, by kernel_rfl⟩
instance : FieldAt Tryd.prog 13 1 1 := ⟨_, _, 0, Tryd.underlying13, rfl, rfl, by kernel_rfl⟩
instance : OffsT Tryd.prog 13 [(0, 1), (1, 1)] [.string .empty, .int .u64 0] := ⟨(([(0, 1), (1, 1)] : List (Nat × Nat)).toArray[·]?), fun _ => by kernel_rfl, fun i p h => by simpa using h⟩
instance : ZeroT Tryd.prog 13 [.string .empty, .int .u64 0] := ⟨_, show still Tryd.prog (zeroValue 13) = some (.agg (List.toArray [.string .empty, .int .u64 0])) by kernel_rfl, .agg _⟩
instance : Ag Tryd.prog 14 2 := ⟨_, Tryd.underlying14, rfl, by kernel_rfl⟩
instance : FieldAt Tryd.prog 14 0 0 := ⟨_, _, 0, Tryd.underlying14, rfl, rfl, by kernel_rfl⟩
instance : FieldAt Tryd.prog 14 1 1 := ⟨_, _, 0, Tryd.underlying14, rfl, rfl, by kernel_rfl⟩
instance : OffsT Tryd.prog 14 [(0, 1), (1, 1)] [.string .empty, .int .u64 0] := ⟨(([(0, 1), (1, 1)] : List (Nat × Nat)).toArray[·]?), fun _ => by kernel_rfl, fun i p h => by simpa using h⟩
instance : ZeroT Tryd.prog 14 [.string .empty, .int .u64 0] := ⟨_, show still Tryd.prog (zeroValue 14) = some (.agg (List.toArray [.string .empty, .int .u64 0])) by kernel_rfl, .agg _⟩
instance : Sc Tryd.prog 15 := ⟨_, Tryd.underlying15, rfl, by kernel_rfl⟩
instance : ZeroT Tryd.prog 15 [.pointer none] := ⟨.pointer none, by kernel_rfl, .one rfl⟩
instance : Sc Tryd.prog 16 := ⟨_, Tryd.underlying16, rfl, by kernel_rfl⟩
instance : ZeroT Tryd.prog 16 [.pointer none] := ⟨.pointer none, by kernel_rfl, .one rfl⟩
instance : Sc Tryd.prog 17 := ⟨_, Tryd.underlying17, rfl, by kernel_rfl⟩
instance : ZeroT Tryd.prog 17 [.pointer none] := ⟨.pointer none, by kernel_rfl, .one rfl⟩
instance : Ag Tryd.prog 18 1 := ⟨_, Tryd.underlying18, rfl, by kernel_rfl⟩
instance : FieldAt Tryd.prog 18 0 0 := ⟨_, _, 0, Tryd.underlying18, rfl, rfl, by kernel_rfl⟩
instance : OffsT Tryd.prog 18 [(0, 1)] [.pointer none] := ⟨(([(0, 1)] : List (Nat × Nat)).toArray[·]?), fun _ => by kernel_rfl, fun i p h => by simpa using h⟩
instance : ZeroT Tryd.prog 18 [.pointer none] := ⟨_, show still Tryd.prog (zeroValue 18) = some (.agg (List.toArray [.pointer none])) by kernel_rfl, .agg _⟩
instance : Ag Tryd.prog 19 1 := ⟨_, Tryd.underlying19, rfl, by kernel_rfl⟩
instance : FieldAt Tryd.prog 19 0 0 := ⟨_, _, 0, Tryd.underlying19, rfl, rfl, by kernel_rfl⟩
instance : OffsT Tryd.prog 19 [(0, 1)] [.pointer none] := ⟨(([(0, 1)] : List (Nat × Nat)).toArray[·]?), fun _ => by kernel_rfl, fun i p h => by simpa using h⟩
instance : ZeroT Tryd.prog 19 [.pointer none] := ⟨_, show still Tryd.prog (zeroValue 19) = some (.agg (List.toArray [.pointer none])) by kernel_rfl, .agg _⟩
instance : Sc Tryd.prog 20 := ⟨_, Tryd.underlying20, rfl, by kernel_rfl⟩
instance : ZeroT Tryd.prog 20 [.nilIface] := ⟨.nilIface, by kernel_rfl, .one rfl⟩
instance : Sc Tryd.prog 21 := ⟨_, Tryd.underlying21, rfl, by kernel_rfl⟩
instance : ZeroT Tryd.prog 21 [.int .i32 0] := ⟨.int .i32 0, by kernel_rfl, .one rfl⟩
instance : IntT Tryd.prog 21 .i32 := ⟨Tryd.underlying21⟩
instance : Ag Tryd.prog 22 5 := ⟨_, Tryd.underlying22, rfl, by kernel_rfl⟩
instance : FieldAt Tryd.prog 22 0 0 := ⟨_, _, 0, Tryd.underlying22, rfl, rfl, by kernel_rfl⟩
instance : FieldAt Tryd.prog 22 1 1 := ⟨_, _, 0, Tryd.underlying22, rfl, rfl, by kernel_rfl⟩
instance : FieldAt Tryd.prog 22 2 2 := ⟨_, _, 0, Tryd.underlying22, rfl, rfl, by kernel_rfl⟩
instance : FieldAt Tryd.prog 22 3 3 := ⟨_, _, 0, Tryd.underlying22, rfl, rfl, by kernel_rfl⟩
instance : FieldAt Tryd.prog 22 4 4 := ⟨_, _, 0, Tryd.underlying22, rfl, rfl, by kernel_rfl⟩
instance : OffsT Tryd.prog 22 [(0, 1), (1, 1), (2, 1), (3, 1), (4, 1)] [.int .i64 0, .int .i64 0, .string .empty, .string .empty, .string .empty] := ⟨(([(0, 1), (1, 1), (2, 1), (3, 1), (4, 1)] : List (Nat × Nat)).toArray[·]?), fun _ => by kernel_rfl, fun i p h => by simpa using h⟩
instance : ZeroT Tryd.prog 22 [.int .i64 0, .int .i64 0, .string .empty, .string .empty, .string .empty] := ⟨_, show still Tryd.prog (zeroValue 22) = some (.agg (List.toArray [.int .i64 0, .int .i64 0, .string .empty, .string .empty, .string .empty])) by kernel_rfl, .agg _⟩
instance : Ag Tryd.prog 23 5 := ⟨_, Tryd.underlying23, rfl, by kernel_rfl⟩
instance : FieldAt Tryd.prog 23 0 0 := ⟨_, _, 0, Tryd.underlying23, rfl, rfl, by kernel_rfl⟩
instance : FieldAt Tryd.prog 23 1 1 := ⟨_, _, 0, Tryd.underlying23, rfl, rfl, by kernel_rfl⟩
instance : FieldAt Tryd.prog 23 2 2 := ⟨_, _, 0, Tryd.underlying23, rfl, rfl, by kernel_rfl⟩
instance : FieldAt Tryd.prog 23 3 3 := ⟨_, _, 0, Tryd.underlying23, rfl, rfl, by kernel_rfl⟩
instance : FieldAt Tryd.prog 23 4 4 := ⟨_, _, 0, Tryd.underlying23, rfl, rfl, by kernel_rfl⟩
instance : OffsT Tryd.prog 23 [(0, 1), (1, 1), (2, 1), (3, 1), (4, 1)] [.int .i64 0, .int .i64 0, .string .empty, .string .empty, .string .empty] := ⟨(([(0, 1), (1, 1), (2, 1), (3, 1), (4, 1)] : List (Nat × Nat)).toArray[·]?), fun _ => by kernel_rfl, fun i p h => by simpa using h⟩
instance : ZeroT Tryd.prog 23 [.int .i64 0, .int .i64 0, .string .empty, .string .empty, .string .empty] := ⟨_, show still Tryd.prog (zeroValue 23) = some (.agg (List.toArray [.int .i64 0, .int .i64 0, .string .empty, .string .empty, .string .empty])) by kernel_rfl, .agg _⟩
instance : Sc Tryd.prog 24 := ⟨_, Tryd.underlying24, rfl, by kernel_rfl⟩
instance : ZeroT Tryd.prog 24 [.slice none 0 0] := ⟨.slice none 0 0, by kernel_rfl, .one rfl⟩
instance : SliceT Tryd.prog 24 3 1 8 := ⟨Tryd.underlying24, by decide, by decide, .int .i64 0, by kernel_rfl, by kernel_rfl⟩
instance : Sc Tryd.prog 25 := ⟨_, Tryd.underlying25, rfl, by kernel_rfl⟩
instance : ZeroT Tryd.prog 25 [.slice none 0 0] := ⟨.slice none 0 0, by kernel_rfl, .one rfl⟩
instance : SliceT Tryd.prog 25 35 6 80 := ⟨Tryd.underlying25, by decide, by decide, .agg #[.int .i64 0, .int .i64 0, .int .i64 0, .string .empty, .slice none 0 0, .string .empty], by kernel_rfl, by kernel_rfl⟩
instance : Sc Tryd.prog 26 := ⟨_, Tryd.underlying26, rfl, by kernel_rfl⟩
instance : ZeroT Tryd.prog 26 [.int .i64 0] := ⟨.int .i64 0, by kernel_rfl, .one rfl⟩
instance : IntT Tryd.prog 26 .i64 := ⟨Tryd.underlying26⟩
instance : Sc Tryd.prog 28 := ⟨_, Tryd.underlying28, rfl, by kernel_rfl⟩
instance : ZeroT Tryd.prog 28 [.nilFunc] := ⟨.nilFunc, by kernel_rfl, .one rfl⟩
instance : Sc Tryd.prog 29 := ⟨_, Tryd.underlying29, rfl, by kernel_rfl⟩
instance : ZeroT Tryd.prog 29 [.nilFunc] := ⟨.nilFunc, by kernel_rfl, .one rfl⟩
instance : Sc Tryd.prog 31 := ⟨_, Tryd.underlying31, rfl, by kernel_rfl⟩
instance : ZeroT Tryd.prog 31 [.nilFunc] := ⟨.nilFunc, by kernel_rfl, .one rfl⟩
instance : Sc Tryd.prog 32 := ⟨_, Tryd.underlying32, rfl, by kernel_rfl⟩
instance : ZeroT Tryd.prog 32 [.nilFunc] := ⟨.nilFunc, by kernel_rfl, .one rfl⟩
instance : Sc Tryd.prog 33 := ⟨_, Tryd.underlying33, rfl, by kernel_rfl⟩
instance : ZeroT Tryd.prog 33 [.nilFunc] := ⟨.nilFunc, by kernel_rfl, .one rfl⟩
instance : Ag Tryd.prog 34 6 := ⟨_, Tryd.underlying34, rfl, by kernel_rfl⟩
instance : FieldAt Tryd.prog 34 0 0 := ⟨_, _, 0, Tryd.underlying34, rfl, rfl, by kernel_rfl⟩
instance : FieldAt Tryd.prog 34 1 1 := ⟨_, _, 0, Tryd.underlying34, rfl, rfl, by kernel_rfl⟩
instance : FieldAt Tryd.prog 34 2 2 := ⟨_, _, 0, Tryd.underlying34, rfl, rfl, by kernel_rfl⟩
instance : FieldAt Tryd.prog 34 3 3 := ⟨_, _, 0, Tryd.underlying34, rfl, rfl, by kernel_rfl⟩
instance : FieldAt Tryd.prog 34 4 4 := ⟨_, _, 0, Tryd.underlying34, rfl, rfl, by kernel_rfl⟩
instance : FieldAt Tryd.prog 34 5 5 := ⟨_, _, 0, Tryd.underlying34, rfl, rfl, by kernel_rfl⟩
instance : OffsT Tryd.prog 34 [(0, 1), (1, 1), (2, 1), (3, 1), (4, 1), (5, 1)] [.int .i64 0, .int .i64 0, .int .i64 0, .string .empty, .slice none 0 0, .string .empty] := ⟨(([(0, 1), (1, 1), (2, 1), (3, 1), (4, 1), (5, 1)] : List (Nat × Nat)).toArray[·]?), fun _ => by kernel_rfl, fun i p h => by simpa using h⟩
instance : ZeroT Tryd.prog 34 [.int .i64 0, .int .i64 0, .int .i64 0, .string .empty, .slice none 0 0, .string .empty] := ⟨_, show still Tryd.prog (zeroValue 34) = some (.agg (List.toArray [.int .i64 0, .int .i64 0, .int .i64 0, .string .empty, .slice none 0 0, .string .empty])) by kernel_rfl, .agg _⟩
instance : Ag Tryd.prog 35 6 := ⟨_, Tryd.underlying35, rfl, by kernel_rfl⟩
instance : FieldAt Tryd.prog 35 0 0 := ⟨_, _, 0, Tryd.underlying35, rfl, rfl, by kernel_rfl⟩
instance : FieldAt Tryd.prog 35 1 1 := ⟨_, _, 0, Tryd.underlying35, rfl, rfl, by kernel_rfl⟩
instance : FieldAt Tryd.prog 35 2 2 := ⟨_, _, 0, Tryd.underlying35, rfl, rfl, by kernel_rfl⟩
instance : FieldAt Tryd.prog 35 3 3 := ⟨_, _, 0, Tryd.underlying35, rfl, rfl, by kernel_rfl⟩
instance : FieldAt Tryd.prog 35 4 4 := ⟨_, _, 0, Tryd.underlying35, rfl, rfl, by kernel_rfl⟩
instance : FieldAt Tryd.prog 35 5 5 := ⟨_, _, 0, Tryd.underlying35, rfl, rfl, by kernel_rfl⟩
instance : OffsT Tryd.prog 35 [(0, 1), (1, 1), (2, 1), (3, 1), (4, 1), (5, 1)] [.int .i64 0, .int .i64 0, .int .i64 0, .string .empty, .slice none 0 0, .string .empty] := ⟨(([(0, 1), (1, 1), (2, 1), (3, 1), (4, 1), (5, 1)] : List (Nat × Nat)).toArray[·]?), fun _ => by kernel_rfl, fun i p h => by simpa using h⟩
instance : ZeroT Tryd.prog 35 [.int .i64 0, .int .i64 0, .int .i64 0, .string .empty, .slice none 0 0, .string .empty] := ⟨_, show still Tryd.prog (zeroValue 35) = some (.agg (List.toArray [.int .i64 0, .int .i64 0, .int .i64 0, .string .empty, .slice none 0 0, .string .empty])) by kernel_rfl, .agg _⟩
instance : Sc Tryd.prog 37 := ⟨_, Tryd.underlying37, rfl, by kernel_rfl⟩
instance : ZeroT Tryd.prog 37 [.nilFunc] := ⟨.nilFunc, by kernel_rfl, .one rfl⟩
instance : Sc Tryd.prog 38 := ⟨_, Tryd.underlying38, rfl, by kernel_rfl⟩
instance : ZeroT Tryd.prog 38 [.nilFunc] := ⟨.nilFunc, by kernel_rfl, .one rfl⟩
instance : Sc Tryd.prog 39 := ⟨_, Tryd.underlying39, rfl, by kernel_rfl⟩
instance : ZeroT Tryd.prog 39 [.nilFunc] := ⟨.nilFunc, by kernel_rfl, .one rfl⟩
instance : Ag Tryd.prog 40 5 := ⟨_, Tryd.underlying40, rfl, by kernel_rfl⟩
instance : FieldAt Tryd.prog 40 0 0 := ⟨_, _, 0, Tryd.underlying40, rfl, rfl, by kernel_rfl⟩
instance : FieldAt Tryd.prog 40 1 1 := ⟨_, _, 0, Tryd.underlying40, rfl, rfl, by kernel_rfl⟩
instance : FieldAt Tryd.prog 40 2 2 := ⟨_, _, 0, Tryd.underlying40, rfl, rfl, by kernel_rfl⟩
instance : FieldAt Tryd.prog 40 3 3 := ⟨_, _, 0, Tryd.underlying40, rfl, rfl, by kernel_rfl⟩
instance : FieldAt Tryd.prog 40 4 4 := ⟨_, _, 0, Tryd.underlying40, rfl, rfl, by kernel_rfl⟩
instance : OffsT Tryd.prog 40 [(0, 1), (1, 1), (2, 1), (3, 1), (4, 1)] [.int .i64 0, .int .i64 0, .int .i64 0, .int .i64 0, .bool false] := ⟨(([(0, 1), (1, 1), (2, 1), (3, 1), (4, 1)] : List (Nat × Nat)).toArray[·]?), fun _ => by kernel_rfl, fun i p h => by simpa using h⟩
instance : ZeroT Tryd.prog 40 [.int .i64 0, .int .i64 0, .int .i64 0, .int .i64 0, .bool false] := ⟨_, show still Tryd.prog (zeroValue 40) = some (.agg (List.toArray [.int .i64 0, .int .i64 0, .int .i64 0, .int .i64 0, .bool false])) by kernel_rfl, .agg _⟩
instance : Ag Tryd.prog 41 5 := ⟨_, Tryd.underlying41, rfl, by kernel_rfl⟩
instance : FieldAt Tryd.prog 41 0 0 := ⟨_, _, 0, Tryd.underlying41, rfl, rfl, by kernel_rfl⟩
instance : FieldAt Tryd.prog 41 1 1 := ⟨_, _, 0, Tryd.underlying41, rfl, rfl, by kernel_rfl⟩
instance : FieldAt Tryd.prog 41 2 2 := ⟨_, _, 0, Tryd.underlying41, rfl, rfl, by kernel_rfl⟩
instance : FieldAt Tryd.prog 41 3 3 := ⟨_, _, 0, Tryd.underlying41, rfl, rfl, by kernel_rfl⟩
instance : FieldAt Tryd.prog 41 4 4 := ⟨_, _, 0, Tryd.underlying41, rfl, rfl, by kernel_rfl⟩
instance : OffsT Tryd.prog 41 [(0, 1), (1, 1), (2, 1), (3, 1), (4, 1)] [.int .i64 0, .int .i64 0, .int .i64 0, .int .i64 0, .bool false] := ⟨(([(0, 1), (1, 1), (2, 1), (3, 1), (4, 1)] : List (Nat × Nat)).toArray[·]?), fun _ => by kernel_rfl, fun i p h => by simpa using h⟩
instance : ZeroT Tryd.prog 41 [.int .i64 0, .int .i64 0, .int .i64 0, .int .i64 0, .bool false] := ⟨_, show still Tryd.prog (zeroValue 41) = some (.agg (List.toArray [.int .i64 0, .int .i64 0, .int .i64 0, .int .i64 0, .bool false])) by kernel_rfl, .agg _⟩
instance : Sc Tryd.prog 43 := ⟨_, Tryd.underlying43, rfl, by kernel_rfl⟩
instance : ZeroT Tryd.prog 43 [.nilFunc] := ⟨.nilFunc, by kernel_rfl, .one rfl⟩
instance : Sc Tryd.prog 45 := ⟨_, Tryd.underlying45, rfl, by kernel_rfl⟩
instance : ZeroT Tryd.prog 45 [.nilFunc] := ⟨.nilFunc, by kernel_rfl, .one rfl⟩
instance : Sc Tryd.prog 46 := ⟨_, Tryd.underlying46, rfl, by kernel_rfl⟩
instance : ZeroT Tryd.prog 46 [.nilFunc] := ⟨.nilFunc, by kernel_rfl, .one rfl⟩
instance : Sc Tryd.prog 47 := ⟨_, Tryd.underlying47, rfl, by kernel_rfl⟩
instance : ZeroT Tryd.prog 47 [.slice none 0 0] := ⟨.slice none 0 0, by kernel_rfl, .one rfl⟩
instance : SliceT Tryd.prog 47 121 4 40 := ⟨Tryd.underlying47, by decide, by decide, .agg #[.string .empty, .string .empty, .bool false, .bool false], by kernel_rfl, by kernel_rfl⟩
instance : Sc Tryd.prog 48 := ⟨_, Tryd.underlying48, rfl, by kernel_rfl⟩
instance : ZeroT Tryd.prog 48 [.nilFunc] := ⟨.nilFunc, by kernel_rfl, .one rfl⟩
instance : Sc Tryd.prog 49 := ⟨_, Tryd.underlying49, rfl, by kernel_rfl⟩
instance : ZeroT Tryd.prog 49 [.nilFunc] := ⟨.nilFunc, by kernel_rfl, .one rfl⟩
instance : Sc Tryd.prog 50 := ⟨_, Tryd.underlying50, rfl, by kernel_rfl⟩
instance : ZeroT Tryd.prog 50 [.slice none 0 0] := ⟨.slice none 0 0, by kernel_rfl, .one rfl⟩
instance : SliceT Tryd.prog 50 9 1 16 := ⟨Tryd.underlying50, by decide, by decide, .string .empty, by kernel_rfl, by kernel_rfl⟩
instance : Sc Tryd.prog 51 := ⟨_, Tryd.underlying51, rfl, by kernel_rfl⟩
instance : ZeroT Tryd.prog 51 [.int .u64 0] := ⟨.int .u64 0, by kernel_rfl, .one rfl⟩
instance : IntT Tryd.prog 51 .u64 := ⟨Tryd.underlying51⟩
instance : Ag Tryd.prog 52 4 := ⟨_, Tryd.underlying52, rfl, by kernel_rfl⟩
instance : ArrT Tryd.prog 52 4 51 1 := ⟨Tryd.underlying52, by kernel_rfl⟩
instance : OffsT Tryd.prog 52 (arrOffs 4 1) [.int .u64 0, .int .u64 0, .int .u64 0, .int .u64 0] := ⟨fun i => some (i * 1, 1), fun _ => by kernel_rfl, arrOffs_at 4 1⟩
instance : ZeroT Tryd.prog 52 [.int .u64 0, .int .u64 0, .int .u64 0, .int .u64 0] := ⟨_, show still Tryd.prog (zeroValue 52) = some (.agg (List.toArray [.int .u64 0, .int .u64 0, .int .u64 0, .int .u64 0])) by kernel_rfl, .agg _⟩
instance : Ag Tryd.prog 53 8 := ⟨_, Tryd.underlying53, rfl, by kernel_rfl⟩
instance : FieldAt Tryd.prog 53 0 0 := ⟨_, _, 3, Tryd.underlying53, rfl, rfl, by kernel_rfl⟩
instance : FieldAt Tryd.prog 53 1 4 := ⟨_, _, 3, Tryd.underlying53, rfl, rfl, by kernel_rfl⟩
instance : OffsT Tryd.prog 53 [(0, 4), (4, 4)] [.int .u64 0, .int .u64 0, .int .u64 0, .int .u64 0, .int .u64 0, .int .u64 0, .int .u64 0, .int .u64 0] := ⟨(([(0, 4), (4, 4)] : List (Nat × Nat)).toArray[·]?), fun _ => by kernel_rfl, fun i p h => by simpa using h⟩
instance : ZeroT Tryd.prog 53 [.int .u64 0, .int .u64 0, .int .u64 0, .int .u64 0, .int .u64 0, .int .u64 0, .int .u64 0, .int .u64 0] := ⟨_, show still Tryd.prog (zeroValue 53) = some (.agg (List.toArray [.int .u64 0, .int .u64 0, .int .u64 0, .int .u64 0, .int .u64 0, .int .u64 0, .int .u64 0, .int .u64 0])) by kernel_rfl, .agg _⟩
instance : Ag Tryd.prog 54 8 := ⟨_, Tryd.underlying54, rfl, by kernel_rfl⟩
instance : FieldAt Tryd.prog 54 0 0 := ⟨_, _, 3, Tryd.underlying54, rfl, rfl, by kernel_rfl⟩
instance : FieldAt Tryd.prog 54 1 4 := ⟨_, _, 3, Tryd.underlying54, rfl, rfl, by kernel_rfl⟩
instance : OffsT Tryd.prog 54 [(0, 4), (4, 4)] [.int .u64 0, .int .u64 0, .int .u64 0, .int .u64 0, .int .u64 0, .int .u64 0, .int .u64 0, .int .u64 0] := ⟨(([(0, 4), (4, 4)] : List (Nat × Nat)).toArray[·]?), fun _ => by kernel_rfl, fun i p h => by simpa using h⟩
instance : ZeroT Tryd.prog 54 [.int .u64 0, .int .u64 0, .int .u64 0, .int .u64 0, .int .u64 0, .int .u64 0, .int .u64 0, .int .u64 0] := ⟨_, show still Tryd.prog (zeroValue 54) = some (.agg (List.toArray [.int .u64 0, .int .u64 0, .int .u64 0, .int .u64 0, .int .u64 0, .int .u64 0, .int .u64 0, .int .u64 0])) by kernel_rfl, .agg _⟩
instance : Ag Tryd.prog 55 5 := ⟨_, Tryd.underlying55, rfl, by kernel_rfl⟩
instance : FieldAt Tryd.prog 55 0 0 := ⟨_, _, 0, Tryd.underlying55, rfl, rfl, by kernel_rfl⟩
instance : FieldAt Tryd.prog 55 1 1 := ⟨_, _, 0, Tryd.underlying55, rfl, rfl, by kernel_rfl⟩
instance : FieldAt Tryd.prog 55 2 2 := ⟨_, _, 0, Tryd.underlying55, rfl, rfl, by kernel_rfl⟩
instance : FieldAt Tryd.prog 55 3 3 := ⟨_, _, 0, Tryd.underlying55, rfl, rfl, by kernel_rfl⟩
instance : FieldAt Tryd.prog 55 4 4 := ⟨_, _, 0, Tryd.underlying55, rfl, rfl, by kernel_rfl⟩
instance : OffsT Tryd.prog 55 [(0, 1), (1, 1), (2, 1), (3, 1), (4, 1)] [.int .i64 0, .int .i64 0, .int .i64 0, .string .empty, .bool false] := ⟨(([(0, 1), (1, 1), (2, 1), (3, 1), (4, 1)] : List (Nat × Nat)).toArray[·]?), fun _ => by kernel_rfl, fun i p h => by simpa using h⟩
instance : ZeroT Tryd.prog 55 [.int .i64 0, .int .i64 0, .int .i64 0, .string .empty, .bool false] := ⟨_, show still Tryd.prog (zeroValue 55) = some (.agg (List.toArray [.int .i64 0, .int .i64 0, .int .i64 0, .string .empty, .bool false])) by kernel_rfl, .agg _⟩
instance : Ag Tryd.prog 56 5 := ⟨_, Tryd.underlying56, rfl, by kernel_rfl⟩
instance : FieldAt Tryd.prog 56 0 0 := ⟨_, _, 0, Tryd.underlying56, rfl, rfl, by kernel_rfl⟩
instance : FieldAt Tryd.prog 56 1 1 := ⟨_, _, 0, Tryd.underlying56, rfl, rfl, by kernel_rfl⟩
instance : FieldAt Tryd.prog 56 2 2 := ⟨_, _, 0, Tryd.underlying56, rfl, rfl, by kernel_rfl⟩
instance : FieldAt Tryd.prog 56 3 3 := ⟨_, _, 0, Tryd.underlying56, rfl, rfl, by kernel_rfl⟩
instance : FieldAt Tryd.prog 56 4 4 := ⟨_, _, 0, Tryd.underlying56, rfl, rfl, by kernel_rfl⟩
instance : OffsT Tryd.prog 56 [(0, 1), (1, 1), (2, 1), (3, 1), (4, 1)] [.int .i64 0, .int .i64 0, .int .i64 0, .string .empty, .bool false] := ⟨(([(0, 1), (1, 1), (2, 1), (3, 1), (4, 1)] : List (Nat × Nat)).toArray[·]?), fun _ => by kernel_rfl, fun i p h => by simpa using h⟩
instance : ZeroT Tryd.prog 56 [.int .i64 0, .int .i64 0, .int .i64 0, .string .empty, .bool false] := ⟨_, show still Tryd.prog (zeroValue 56) = some (.agg (List.toArray [.int .i64 0, .int .i64 0, .int .i64 0, .string .empty, .bool false])) by kernel_rfl, .agg _⟩
instance : Sc Tryd.prog 57 := ⟨_, Tryd.underlying57, rfl, by kernel_rfl⟩
instance : ZeroT Tryd.prog 57 [.slice none 0 0] := ⟨.slice none 0 0, by kernel_rfl, .one rfl⟩
instance : SliceT Tryd.prog 57 170 4 32 := ⟨Tryd.underlying57, by decide, by decide, .agg #[.int .i64 0, .int .i64 0, .int .i64 0, .int .i64 0], by kernel_rfl, by kernel_rfl⟩
instance : Ag Tryd.prog 58 3 := ⟨_, Tryd.underlying58, rfl, by kernel_rfl⟩
instance : FieldAt Tryd.prog 58 0 0 := ⟨_, _, 0, Tryd.underlying58, rfl, rfl, by kernel_rfl⟩
instance : FieldAt Tryd.prog 58 1 1 := ⟨_, _, 0, Tryd.underlying58, rfl, rfl, by kernel_rfl⟩
instance : FieldAt Tryd.prog 58 2 2 := ⟨_, _, 0, Tryd.underlying58, rfl, rfl, by kernel_rfl⟩
instance : OffsT Tryd.prog 58 [(0, 1), (1, 1), (2, 1)] [.int .i64 0, .int .i64 0, .slice none 0 0] := ⟨(([(0, 1), (1, 1), (2, 1)] : List (Nat × Nat)).toArray[·]?), fun _ => by kernel_rfl, fun i p h => by simpa using h⟩
instance : ZeroT Tryd.prog 58 [.int .i64 0, .int .i64 0, .slice none 0 0] := ⟨_, show still Tryd.prog (zeroValue 58) = some (.agg (List.toArray [.int .i64 0, .int .i64 0, .slice none 0 0])) by kernel_rfl, .agg _⟩
instance : Ag Tryd.prog 59 3 := ⟨_, Tryd.underlying59, rfl, by kernel_rfl⟩
instance : FieldAt Tryd.prog 59 0 0 := ⟨_, _, 0, Tryd.underlying59, rfl, rfl, by kernel_rfl⟩
instance : FieldAt Tryd.prog 59 1 1 := ⟨_, _, 0, Tryd.underlying59, rfl, rfl, by kernel_rfl⟩
instance : FieldAt Tryd.prog 59 2 2 := ⟨_, _, 0, Tryd.underlying59, rfl, rfl, by kernel_rfl⟩
instance : OffsT Tryd.prog 59 [(0, 1), (1, 1), (2, 1)] [.int .i64 0, .int .i64 0, .slice none 0 0] := ⟨(([(0, 1), (1, 1), (2, 1)] : List (Nat × Nat)).toArray[·]?), fun _ => by kernel_rfl, fun i p h => by simpa using h⟩
instance : ZeroT Tryd.prog 59 [.int .i64 0, .int .i64 0, .slice none 0 0] := ⟨_, show still Tryd.prog (zeroValue 59) = some (.agg (List.toArray [.int .i64 0, .int .i64 0, .slice none 0 0])) by kernel_rfl, .agg _⟩
instance : Ag Tryd.prog 60 3 := ⟨_, Tryd.underlying60, rfl, by kernel_rfl⟩
instance : FieldAt Tryd.prog 60 0 0 := ⟨_, _, 0, Tryd.underlying60, rfl, rfl, by kernel_rfl⟩
instance : FieldAt Tryd.prog 60 1 1 := ⟨_, _, 0, Tryd.underlying60, rfl, rfl, by kernel_rfl⟩
instance : FieldAt Tryd.prog 60 2 2 := ⟨_, _, 0, Tryd.underlying60, rfl, rfl, by kernel_rfl⟩
instance : OffsT Tryd.prog 60 [(0, 1), (1, 1), (2, 1)] [.int .i64 0, .int .i64 0, .int .i64 0] := ⟨(([(0, 1), (1, 1), (2, 1)] : List (Nat × Nat)).toArray[·]?), fun _ => by kernel_rfl, fun i p h => by simpa using h⟩
instance : ZeroT Tryd.prog 60 [.int .i64 0, .int .i64 0, .int .i64 0] := ⟨_, show still Tryd.prog (zeroValue 60) = some (.agg (List.toArray [.int .i64 0, .int .i64 0, .int .i64 0])) by kernel_rfl, .agg _⟩
instance : Ag Tryd.prog 61 3 := ⟨_, Tryd.underlying61, rfl, by kernel_rfl⟩
instance : FieldAt Tryd.prog 61 0 0 := ⟨_, _, 0, Tryd.underlying61, rfl, rfl, by kernel_rfl⟩
instance : FieldAt Tryd.prog 61 1 1 := ⟨_, _, 0, Tryd.underlying61, rfl, rfl, by kernel_rfl⟩
instance : FieldAt Tryd.prog 61 2 2 := ⟨_, _, 0, Tryd.underlying61, rfl, rfl, by kernel_rfl⟩
instance : OffsT Tryd.prog 61 [(0, 1), (1, 1), (2, 1)] [.int .i64 0, .int .i64 0, .int .i64 0] := ⟨(([(0, 1), (1, 1), (2, 1)] : List (Nat × Nat)).toArray[·]?), fun _ => by kernel_rfl, fun i p h => by simpa using h⟩
instance : ZeroT Tryd.prog 61 [.int .i64 0, .int .i64 0, .int .i64 0] := ⟨_, show still Tryd.prog (zeroValue 61) = some (.agg (List.toArray [.int .i64 0, .int .i64 0, .int .i64 0])) by kernel_rfl, .agg _⟩
instance : Ag Tryd.prog 62 4 := ⟨_, Tryd.underlying62, rfl, by kernel_rfl⟩
instance : FieldAt Tryd.prog 62 0 0 := ⟨_, _, 3, Tryd.underlying62, rfl, rfl, by kernel_rfl⟩
instance : OffsT Tryd.prog 62 [(0, 4)] [.int .u64 0, .int .u64 0, .int .u64 0, .int .u64 0] := ⟨(([(0, 4)] : List (Nat × Nat)).toArray[·]?), fun _ => by kernel_rfl, fun i p h => by simpa using h⟩
instance : ZeroT Tryd.prog 62 [.int .u64 0, .int .u64 0, .int .u64 0, .int .u64 0] := ⟨_, show still Tryd.prog (zeroValue 62) = some (.agg (List.toArray [.int .u64 0, .int .u64 0, .int .u64 0, .int .u64 0])) by kernel_rfl, .agg _⟩
instance : Ag Tryd.prog 63 4 := ⟨_, Tryd.underlying63, rfl, by kernel_rfl⟩
instance : FieldAt Tryd.prog 63 0 0 := ⟨_, _, 3, Tryd.underlying63, rfl, rfl, by kernel_rfl⟩
instance : OffsT Tryd.prog 63 [(0, 4)] [.int .u64 0, .int .u64 0, .int .u64 0, .int .u64 0] := ⟨(([(0, 4)] : List (Nat × Nat)).toArray[·]?), fun _ => by kernel_rfl, fun i p h => by simpa using h⟩
instance : ZeroT Tryd.prog 63 [.int .u64 0, .int .u64 0, .int .u64 0, .int .u64 0] := ⟨_, show still Tryd.prog (zeroValue 63) = some (.agg (List.toArray [.int .u64 0, .int .u64 0, .int .u64 0, .int .u64 0])) by kernel_rfl, .agg _⟩
instance : Ag Tryd.prog 64 2 := ⟨_, Tryd.underlying64, rfl, by kernel_rfl⟩
instance : ArrT Tryd.prog 64 2 3 1 := ⟨Tryd.underlying64, by kernel_rfl⟩
instance : OffsT Tryd.prog 64 (arrOffs 2 1) [.int .i64 0, .int .i64 0] := ⟨fun i => some (i * 1, 1), fun _ => by kernel_rfl, arrOffs_at 2 1⟩
instance : ZeroT Tryd.prog 64 [.int .i64 0, .int .i64 0] := ⟨_, show still Tryd.prog (zeroValue 64) = some (.agg (List.toArray [.int .i64 0, .int .i64 0])) by kernel_rfl, .agg _⟩
instance : Ag Tryd.prog 65 9 := ⟨_, Tryd.underlying65, rfl, by kernel_rfl⟩
instance : FieldAt Tryd.prog 65 0 0 := ⟨_, _, 0, Tryd.underlying65, rfl, rfl, by kernel_rfl⟩
instance : FieldAt Tryd.prog 65 1 1 := ⟨_, _, 0, Tryd.underlying65, rfl, rfl, by kernel_rfl⟩
instance : FieldAt Tryd.prog 65 2 2 := ⟨_, _, 2, Tryd.underlying65, rfl, rfl, by kernel_rfl⟩
instance : FieldAt Tryd.prog 65 3 5 := ⟨_, _, 0, Tryd.underlying65, rfl, rfl, by kernel_rfl⟩
instance : FieldAt Tryd.prog 65 4 6 := ⟨_, _, 1, Tryd.underlying65, rfl, rfl, by kernel_rfl⟩
instance : FieldAt Tryd.prog 65 5 8 := ⟨_, _, 0, Tryd.underlying65, rfl, rfl, by kernel_rfl⟩
instance : OffsT Tryd.prog 65 [(0, 1), (1, 1), (2, 3), (5, 1), (6, 2), (8, 1)] [.int .i64 0, .int .i64 0, .int .i64 0, .int .i64 0, .int .i64 0, .bool false, .int .i64 0, .int .i64 0, .int .i64 0] := ⟨(([(0, 1), (1, 1), (2, 3), (5, 1), (6, 2), (8, 1)] : List (Nat × Nat)).toArray[·]?), fun _ => by kernel_rfl, fun i p h => by simpa using h⟩
instance : ZeroT Tryd.prog 65 [.int .i64 0, .int .i64 0, .int .i64 0, .int .i64 0, .int .i64 0, .bool false, .int .i64 0, .int .i64 0, .int .i64 0] := ⟨_, show still Tryd.prog (zeroValue 65) = some (.agg (List.toArray [.int .i64 0, .int .i64 0, .int .i64 0, .int .i64 0, .int .i64 0, .bool false, .int .i64 0, .int .i64 0, .int .i64 0])) by kernel_rfl, .agg _⟩
instance : Ag Tryd.prog 66 9 := ⟨_, Tryd.underlying66, rfl, by kernel_rfl⟩
instance : FieldAt Tryd.prog 66 0 0 := ⟨_, _, 0, Tryd.underlying66, rfl, rfl, by kernel_rfl⟩
instance : FieldAt Tryd.prog 66 1 1 := ⟨_, _, 0, Tryd.underlying66, rfl, rfl, by kernel_rfl⟩
instance : FieldAt Tryd.prog 66 2 2 := ⟨_, _, 2, Tryd.underlying66, rfl, rfl, by kernel_rfl⟩
instance : FieldAt Tryd.prog 66 3 5 := ⟨_, _, 0, Tryd.underlying66, rfl, rfl, by kernel_rfl⟩
instance : FieldAt Tryd.prog 66 4 6 := ⟨_, _, 1, Tryd.underlying66, rfl, rfl, by kernel_rfl⟩
instance : FieldAt Tryd.prog 66 5 8 := ⟨_, _, 0, Tryd.underlying66, rfl, rfl, by kernel_rfl⟩
instance : OffsT Tryd.prog 66 [(0, 1), (1, 1), (2, 3), (5, 1), (6, 2), (8, 1)] [.int .i64 0, .int .i64 0, .int .i64 0, .int .i64 0, .int .i64 0, .bool false, .int .i64 0, .int .i64 0, .int .i64 0] := ⟨(([(0, 1), (1, 1), (2, 3), (5, 1), (6, 2), (8, 1)] : List (Nat × Nat)).toArray[·]?), fun _ => by kernel_rfl, fun i p h => by simpa using h⟩
instance : ZeroT Tryd.prog 66 [.int .i64 0, .int .i64 0, .int .i64 0, .int .i64 0, .int .i64 0, .bool false, .int .i64 0, .int .i64 0, .int .i64 0] := ⟨_, show still Tryd.prog (zeroValue 66) = some (.agg (List.toArray [.int .i64 0, .int .i64 0, .int .i64 0, .int .i64 0, .int .i64 0, .bool false, .int .i64 0, .int .i64 0, .int .i64 0])) by kernel_rfl, .agg _⟩
instance : Sc Tryd.prog 67 := ⟨_, Tryd.underlying67, rfl, by kernel_rfl⟩
instance : ZeroT Tryd.prog 67 [.slice none 0 0] := ⟨.slice none 0 0, by kernel_rfl, .one rfl⟩
instance : SliceT Tryd.prog 67 167 1 24 := ⟨Tryd.underlying67, by decide, by decide, .agg #[.slice none 0 0], by kernel_rfl, by kernel_rfl⟩
instance : Ag Tryd.prog 68 33 := ⟨_, Tryd.underlying68, rfl, by kernel_rfl⟩
instance : FieldAt Tryd.prog 68 0 0 := ⟨_, _, 2, Tryd.underlying68, rfl, rfl, by kernel_rfl⟩
instance : FieldAt Tryd.prog 68 1 3 := ⟨_, _, 0, Tryd.underlying68, rfl, rfl, by kernel_rfl⟩
instance : FieldAt Tryd.prog 68 2 4 := ⟨_, _, 0, Tryd.underlying68, rfl, rfl, by kernel_rfl⟩
instance : FieldAt Tryd.prog 68 3 5 := ⟨_, _, 0, Tryd.underlying68, rfl, rfl, by kernel_rfl⟩
instance : FieldAt Tryd.prog 68 4 6 := ⟨_, _, 0, Tryd.underlying68, rfl, rfl, by kernel_rfl⟩
instance : FieldAt Tryd.prog 68 5 7 := ⟨_, _, 0, Tryd.underlying68, rfl, rfl, by kernel_rfl⟩
instance : FieldAt Tryd.prog 68 6 8 := ⟨_, _, 2, Tryd.underlying68, rfl, rfl, by kernel_rfl⟩
instance : FieldAt Tryd.prog 68 7 11 := ⟨_, _, 0, Tryd.underlying68, rfl, rfl, by kernel_rfl⟩
instance : FieldAt Tryd.prog 68 8 12 := ⟨_, _, 3, Tryd.underlying68, rfl, rfl, by kernel_rfl⟩
instance : FieldAt Tryd.prog 68 9 16 := ⟨_, _, 1, Tryd.underlying68, rfl, rfl, by kernel_rfl⟩
instance : FieldAt Tryd.prog 68 10 18 := ⟨_, _, 0, Tryd.underlying68, rfl, rfl, by kernel_rfl⟩
instance : FieldAt Tryd.prog 68 11 19 := ⟨_, _, 8, Tryd.underlying68, rfl, rfl, by kernel_rfl⟩
instance : FieldAt Tryd.prog 68 12 28 := ⟨_, _, 2, Tryd.underlying68, rfl, rfl, by kernel_rfl⟩
instance : FieldAt Tryd.prog 68 13 31 := ⟨_, _, 0, Tryd.underlying68, rfl, rfl, by kernel_rfl⟩
instance : FieldAt Tryd.prog 68 14 32 := ⟨_, _, 0, Tryd.underlying68, rfl, rfl, by kernel_rfl⟩
instance : OffsT Tryd.prog 68 [(0, 3), (3, 1), (4, 1), (5, 1), (6, 1), (7, 1), (8, 3), (11, 1), (12, 4), (16, 2), (18, 1), (19, 9), (28, 3), (31, 1), (32, 1)] (.int .i64 0 :: .int .i64 0 :: .slice none 0 0 :: .int .i64 0 :: .int .i64 0 :: .bool false :: .int .i64 0 :: .int .i64 0 :: .int .i64 0 :: .int .i64 0 :: .int .i64 0 :: .int .i64 0 :: .int .u64 0 :: .int .u64 0 :: .int .u64 0 :: .int .u64 0 :: .int .i64 0 :: .int .i64 0 :: .int .i64 0 :: .int .i64 0 :: .int .i64 0 :: .int .i64 0 :: .int .i64 0 :: .int .i64 0 :: .bool false :: .int .i64 0 :: .int .i64 0 :: .int .i64 0 :: .int .i64 0 :: .int .i64 0 :: .slice none 0 0 :: .string .empty :: .slice none 0 0 :: []) := ⟨(([(0, 3), (3, 1), (4, 1), (5, 1), (6, 1), (7, 1), (8, 3), (11, 1), (12, 4), (16, 2), (18, 1), (19, 9), (28, 3), (31, 1), (32, 1)] : List (Nat × Nat)).toArray[·]?), fun _ => by kernel_rfl, fun i p h => by simpa using h⟩
instance : ZeroT Tryd.prog 68 (.int .i64 0 :: .int .i64 0 :: .slice none 0 0 :: .int .i64 0 :: .int .i64 0 :: .bool false :: .int .i64 0 :: .int .i64 0 :: .int .i64 0 :: .int .i64 0 :: .int .i64 0 :: .int .i64 0 :: .int .u64 0 :: .int .u64 0 :: .int .u64 0 :: .int .u64 0 :: .int .i64 0 :: .int .i64 0 :: .int .i64 0 :: .int .i64 0 :: .int .i64 0 :: .int .i64 0 :: .int .i64 0 :: .int .i64 0 :: .bool false :: .int .i64 0 :: .int .i64 0 :: .int .i64 0 :: .int .i64 0 :: .int .i64 0 :: .slice none 0 0 :: .string .empty :: .slice none 0 0 :: []) := ⟨_, show still Tryd.prog (zeroValue 68) = some (.agg (List.toArray (.int .i64 0 :: .int .i64 0 :: .slice none 0 0 :: .int .i64 0 :: .int .i64 0 :: .bool false :: .int .i64 0 :: .int .i64 0 :: .int .i64 0 :: .int .i64 0 :: .int .i64 0 :: .int .i64 0 :: .int .u64 0 :: .int .u64 0 :: .int .u64 0 :: .int .u64 0 :: .int .i64 0 :: .int .i64 0 :: .int .i64 0 :: .int .i64 0 :: .int .i64 0 :: .int .i64 0 :: .int .i64 0 :: .int .i64 0 :: .bool false :: .int .i64 0 :: .int .i64 0 :: .int .i64 0 :: .int .i64 0 :: .int .i64 0 :: .slice none 0 0 :: .string .empty :: .slice none 0 0 :: []))) by kernel_rfl, .agg _⟩
instance : Ag Tryd.prog 69 33 := ⟨_, Tryd.underlying69, rfl, by kernel_rfl⟩
instance : FieldAt Tryd.prog 69 0 0 := ⟨_, _, 2, Tryd.underlying69, rfl, rfl, by kernel_rfl⟩
instance : FieldAt Tryd.prog 69 1 3 := ⟨_, _, 0, Tryd.underlying69, rfl, rfl, by kernel_rfl⟩
instance : FieldAt Tryd.prog 69 2 4 := ⟨_, _, 0, Tryd.underlying69, rfl, rfl, by kernel_rfl⟩
instance : FieldAt Tryd.prog 69 3 5 := ⟨_, _, 0, Tryd.underlying69, rfl, rfl, by kernel_rfl⟩
instance : FieldAt Tryd.prog 69 4 6 := ⟨_, _, 0, Tryd.underlying69, rfl, rfl, by kernel_rfl⟩
instance : FieldAt Tryd.prog 69 5 7 := ⟨_, _, 0, Tryd.underlying69, rfl, rfl, by kernel_rfl⟩
instance : FieldAt Tryd.prog 69 6 8 := ⟨_, _, 2, Tryd.underlying69, rfl, rfl, by kernel_rfl⟩
instance : FieldAt Tryd.prog 69 7 11 := ⟨_, _, 0, Tryd.underlying69, rfl, rfl, by kernel_rfl⟩
instance : FieldAt Tryd.prog 69 8 12 := ⟨_, _, 3, Tryd.underlying69, rfl, rfl, by kernel_rfl⟩
instance : FieldAt Tryd.prog 69 9 16 := ⟨_, _, 1, Tryd.underlying69, rfl, rfl, by kernel_rfl⟩
instance : FieldAt Tryd.prog 69 10 18 := ⟨_, _, 0, Tryd.underlying69, rfl, rfl, by kernel_rfl⟩
instance : FieldAt Tryd.prog 69 11 19 := ⟨_, _, 8, Tryd.underlying69, rfl, rfl, by kernel_rfl⟩
instance : FieldAt Tryd.prog 69 12 28 := ⟨_, _, 2, Tryd.underlying69, rfl, rfl, by kernel_rfl⟩
instance : FieldAt Tryd.prog 69 13 31 := ⟨_, _, 0, Tryd.underlying69, rfl, rfl, by kernel_rfl⟩
instance : FieldAt Tryd.prog 69 14 32 := ⟨_, _, 0, Tryd.underlying69, rfl, rfl, by kernel_rfl⟩
instance : OffsT Tryd.prog 69 [(0, 3), (3, 1), (4, 1), (5, 1), (6, 1), (7, 1), (8, 3), (11, 1), (12, 4), (16, 2), (18, 1), (19, 9), (28, 3), (31, 1), (32, 1)] (.int .i64 0 :: .int .i64 0 :: .slice none 0 0 :: .int .i64 0 :: .int .i64 0 :: .bool false :: .int .i64 0 :: .int .i64 0 :: .int .i64 0 :: .int .i64 0 :: .int .i64 0 :: .int .i64 0 :: .int .u64 0 :: .int .u64 0 :: .int .u64 0 :: .int .u64 0 :: .int .i64 0 :: .int .i64 0 :: .int .i64 0 :: .int .i64 0 :: .int .i64 0 :: .int .i64 0 :: .int .i64 0 :: .int .i64 0 :: .bool false :: .int .i64 0 :: .int .i64 0 :: .int .i64 0 :: .int .i64 0 :: .int .i64 0 :: .slice none 0 0 :: .string .empty :: .slice none 0 0 :: []) := ⟨(([(0, 3), (3, 1), (4, 1), (5, 1), (6, 1), (7, 1), (8, 3), (11, 1), (12, 4), (16, 2), (18, 1), (19, 9), (28, 3), (31, 1), (32, 1)] : List (Nat × Nat)).toArray[·]?), fun _ => by kernel_rfl, fun i p h => by simpa using h⟩
instance : ZeroT Tryd.prog 69 (.int .i64 0 :: .int .i64 0 :: .slice none 0 0 :: .int .i64 0 :: .int .i64 0 :: .bool false :: .int .i64 0 :: .int .i64 0 :: .int .i64 0 :: .int .i64 0 :: .int .i64 0 :: .int .i64 0 :: .int .u64 0 :: .int .u64 0 :: .int .u64 0 :: .int .u64 0 :: .int .i64 0 :: .int .i64 0 :: .int .i64 0 :: .int .i64 0 :: .int .i64 0 :: .int .i64 0 :: .int .i64 0 :: .int .i64 0 :: .bool false :: .int .i64 0 :: .int .i64 0 :: .int .i64 0 :: .int .i64 0 :: .int .i64 0 :: .slice none 0 0 :: .string .empty :: .slice none 0 0 :: []) := ⟨_, show still Tryd.prog (zeroValue 69) = some (.agg (List.toArray (.int .i64 0 :: .int .i64 0 :: .slice none 0 0 :: .int .i64 0 :: .int .i64 0 :: .bool false :: .int .i64 0 :: .int .i64 0 :: .int .i64 0 :: .int .i64 0 :: .int .i64 0 :: .int .i64 0 :: .int .u64 0 :: .int .u64 0 :: .int .u64 0 :: .int .u64 0 :: .int .i64 0 :: .int .i64 0 :: .int .i64 0 :: .int .i64 0 :: .int .i64 0 :: .int .i64 0 :: .int .i64 0 :: .int .i64 0 :: .bool false :: .int .i64 0 :: .int .i64 0 :: .int .i64 0 :: .int .i64 0 :: .int .i64 0 :: .slice none 0 0 :: .string .empty :: .slice none 0 0 :: []))) by kernel_rfl, .agg _⟩
instance : Ag Tryd.prog 70 256 := ⟨_, Tryd.underlying70, rfl, by kernel_rfl⟩
instance : ArrT Tryd.prog 70 256 5 1 := ⟨Tryd.underlying70, by kernel_rfl⟩
instance : Ag Tryd.prog 71 520 := ⟨_, Tryd.underlying71, rfl, by kernel_rfl⟩
instance : FieldAt Tryd.prog 71 0 0 := ⟨_, _, 255, Tryd.underlying71, rfl, rfl, by kernel_rfl⟩
instance : FieldAt Tryd.prog 71 1 256 := ⟨_, _, 255, Tryd.underlying71, rfl, rfl, by kernel_rfl⟩
instance : FieldAt Tryd.prog 71 2 512 := ⟨_, _, 3, Tryd.underlying71, rfl, rfl, by kernel_rfl⟩
instance : FieldAt Tryd.prog 71 3 516 := ⟨_, _, 3, Tryd.underlying71, rfl, rfl, by kernel_rfl⟩
instance : Ag Tryd.prog 72 520 := ⟨_, Tryd.underlying72, rfl, by kernel_rfl⟩
instance : FieldAt Tryd.prog 72 0 0 := ⟨_, _, 255, Tryd.underlying72, rfl, rfl, by kernel_rfl⟩
instance : FieldAt Tryd.prog 72 1 256 := ⟨_, _, 255, Tryd.underlying72, rfl, rfl, by kernel_rfl⟩
instance : FieldAt Tryd.prog 72 2 512 := ⟨_, _, 3, Tryd.underlying72, rfl, rfl, by kernel_rfl⟩
instance : FieldAt Tryd.prog 72 3 516 := ⟨_, _, 3, Tryd.underlying72, rfl, rfl, by kernel_rfl⟩
instance : Ag Tryd.prog 73 2 := ⟨_, Tryd.underlying73, rfl, by kernel_rfl⟩
instance : FieldAt Tryd.prog 73 0 0 := ⟨_, _, 0, Tryd.underlying73, rfl, rfl, by kernel_rfl⟩
instance : FieldAt Tryd.prog 73 1 1 := ⟨_, _, 0, Tryd.underlying73, rfl, rfl, by kernel_rfl⟩
instance : OffsT Tryd.prog 73 [(0, 1), (1, 1)] [.slice none 0 0, .int .i64 0] := ⟨(([(0, 1), (1, 1)] : List (Nat × Nat)).toArray[·]?), fun _ => by kernel_rfl, fun i p h => by simpa using h⟩
instance : ZeroT Tryd.prog 73 [.slice none 0 0, .int .i64 0] := ⟨_, show still Tryd.prog (zeroValue 73) = some (.agg (List.toArray [.slice none 0 0, .int .i64 0])) by kernel_rfl, .agg _⟩
instance : Ag Tryd.prog 74 2 := ⟨_, Tryd.underlying74, rfl, by kernel_rfl⟩
instance : FieldAt Tryd.prog 74 0 0 := ⟨_, _, 0, Tryd.underlying74, rfl, rfl, by kernel_rfl⟩
instance : FieldAt Tryd.prog 74 1 1 := ⟨_, _, 0, Tryd.underlying74, rfl, rfl, by kernel_rfl⟩
instance : OffsT Tryd.prog 74 [(0, 1), (1, 1)] [.slice none 0 0, .int .i64 0] := ⟨(([(0, 1), (1, 1)] : List (Nat × Nat)).toArray[·]?), fun _ => by kernel_rfl, fun i p h => by simpa using h⟩
instance : ZeroT Tryd.prog 74 [.slice none 0 0, .int .i64 0] := ⟨_, show still Tryd.prog (zeroValue 74) = some (.agg (List.toArray [.slice none 0 0, .int .i64 0])) by kernel_rfl, .agg _⟩
instance : Ag Tryd.prog 75 19 := ⟨_, Tryd.underlying75, rfl, by kernel_rfl⟩
instance : ArrT Tryd.prog 75 19 5 1 := ⟨Tryd.underlying75, by kernel_rfl⟩
instance : OffsT Tryd.prog 75 (arrOffs 19 1) (.int .u8 0 :: .int .u8 0 :: .int .u8 0 :: .int .u8 0 :: .int .u8 0 :: .int .u8 0 :: .int .u8 0 :: .int .u8 0 :: .int .u8 0 :: .int .u8 0 :: .int .u8 0 :: .int .u8 0 :: .int .u8 0 :: .int .u8 0 :: .int .u8 0 :: .int .u8 0 :: .int .u8 0 :: .int .u8 0 :: .int .u8 0 :: []) := ⟨fun i => some (i * 1, 1), fun _ => by kernel_rfl, arrOffs_at 19 1⟩
instance : ZeroT Tryd.prog 75 (.int .u8 0 :: .int .u8 0 :: .int .u8 0 :: .int .u8 0 :: .int .u8 0 :: .int .u8 0 :: .int .u8 0 :: .int .u8 0 :: .int .u8 0 :: .int .u8 0 :: .int .u8 0 :: .int .u8 0 :: .int .u8 0 :: .int .u8 0 :: .int .u8 0 :: .int .u8 0 :: .int .u8 0 :: .int .u8 0 :: .int .u8 0 :: []) := ⟨_, show still Tryd.prog (zeroValue 75) = some (.agg (List.toArray (.int .u8 0 :: .int .u8 0 :: .int .u8 0 :: .int .u8 0 :: .int .u8 0 :: .int .u8 0 :: .int .u8 0 :: .int .u8 0 :: .int .u8 0 :: .int .u8 0 :: .int .u8 0 :: .int .u8 0 :: .int .u8 0 :: .int .u8 0 :: .int .u8 0 :: .int .u8 0 :: .int .u8 0 :: .int .u8 0 :: .int .u8 0 :: []))) by kernel_rfl, .agg _⟩
instance : Ag Tryd.prog 76 38 := ⟨_, Tryd.underlying76, rfl, by kernel_rfl⟩
instance : FieldAt Tryd.prog 76 0 0 := ⟨_, _, 18, Tryd.underlying76, rfl, rfl, by kernel_rfl⟩
instance : FieldAt Tryd.prog 76 1 19 := ⟨_, _, 18, Tryd.underlying76, rfl, rfl, by kernel_rfl⟩
instance : OffsT Tryd.prog 76 [(0, 19), (19, 19)] (.int .u8 0 :: .int .u8 0 :: .int .u8 0 :: .int .u8 0 :: .int .u8 0 :: .int .u8 0 :: .int .u8 0 :: .int .u8 0 :: .int .u8 0 :: .int .u8 0 :: .int .u8 0 :: .int .u8 0 :: .int .u8 0 :: .int .u8 0 :: .int .u8 0 :: .int .u8 0 :: .int .u8 0 :: .int .u8 0 :: .int .u8 0 :: .int .u8 0 :: .int .u8 0 :: .int .u8 0 :: .int .u8 0 :: .int .u8 0 :: .int .u8 0 :: .int .u8 0 :: .int .u8 0 :: .int .u8 0 :: .int .u8 0 :: .int .u8 0 :: .int .u8 0 :: .int .u8 0 :: .int .u8 0 :: .int .u8 0 :: .int .u8 0 :: .int .u8 0 :: .int .u8 0 :: .int .u8 0 :: []) := ⟨(([(0, 19), (19, 19)] : List (Nat × Nat)).toArray[·]?), fun _ => by kernel_rfl, fun i p h => by simpa using h⟩
instance : ZeroT Tryd.prog 76 (.int .u8 0 :: .int .u8 0 :: .int .u8 0 :: .int .u8 0 :: .int .u8 0 :: .int .u8 0 :: .int .u8 0 :: .int .u8 0 :: .int .u8 0 :: .int .u8 0 :: .int .u8 0 :: .int .u8 0 :: .int .u8 0 :: .int .u8 0 :: .int .u8 0 :: .int .u8 0 :: .int .u8 0 :: .int .u8 0 :: .int .u8 0 :: .int .u8 0 :: .int .u8 0 :: .int .u8 0 :: .int .u8 0 :: .int .u8 0 :: .int .u8 0 :: .int .u8 0 :: .int .u8 0 :: .int .u8 0 :: .int .u8 0 :: .int .u8 0 :: .int .u8 0 :: .int .u8 0 :: .int .u8 0 :: .int .u8 0 :: .int .u8 0 :: .int .u8 0 :: .int .u8 0 :: .int .u8 0 :: []) := ⟨_, show still Tryd.prog (zeroValue 76) = some (.agg (List.toArray (.int .u8 0 :: .int .u8 0 :: .int .u8 0 :: .int .u8 0 :: .int .u8 0 :: .int .u8 0 :: .int .u8 0 :: .int .u8 0 :: .int .u8 0 :: .int .u8 0 :: .int .u8 0 :: .int .u8 0 :: .int .u8 0 :: .int .u8 0 :: .int .u8 0 :: .int .u8 0 :: .int .u8 0 :: .int .u8 0 :: .int .u8 0 :: .int .u8 0 :: .int .u8 0 :: .int .u8 0 :: .int .u8 0 :: .int .u8 0 :: .int .u8 0 :: .int .u8 0 :: .int .u8 0 :: .int .u8 0 :: .int .u8 0 :: .int .u8 0 :: .int .u8 0 :: .int .u8 0 :: .int .u8 0 :: .int .u8 0 :: .int .u8 0 :: .int .u8 0 :: .int .u8 0 :: .int .u8 0 :: []))) by kernel_rfl, .agg _⟩
instance : Ag Tryd.prog 77 38 := ⟨_, Tryd.underlying77, rfl, by kernel_rfl⟩
instance : FieldAt Tryd.prog 77 0 0 := ⟨_, _, 18, Tryd.underlying77, rfl, rfl, by kernel_rfl⟩
instance : FieldAt Tryd.prog 77 1 19 := ⟨_, _, 18, Tryd.underlying77, rfl, rfl, by kernel_rfl⟩
instance : OffsT Tryd.prog 77 [(0, 19), (19, 19)] (.int .u8 0 :: .int .u8 0 :: .int .u8 0 :: .int .u8 0 :: .int .u8 0 :: .int .u8 0 :: .int .u8 0 :: .int .u8 0 :: .int .u8 0 :: .int .u8 0 :: .int .u8 0 :: .int .u8 0 :: .int .u8 0 :: .int .u8 0 :: .int .u8 0 :: .int .u8 0 :: .int .u8 0 :: .int .u8 0 :: .int .u8 0 :: .int .u8 0 :: .int .u8 0 :: .int .u8 0 :: .int .u8 0 :: .int .u8 0 :: .int .u8 0 :: .int .u8 0 :: .int .u8 0 :: .int .u8 0 :: .int .u8 0 :: .int .u8 0 :: .int .u8 0 :: .int .u8 0 :: .int .u8 0 :: .int .u8 0 :: .int .u8 0 :: .int .u8 0 :: .int .u8 0 :: .int .u8 0 :: []) := ⟨(([(0, 19), (19, 19)] : List (Nat × Nat)).toArray[·]?), fun _ => by kernel_rfl, fun i p h => by simpa using h⟩
instance : ZeroT Tryd.prog 77 (.int .u8 0 :: .int .u8 0 :: .int .u8 0 :: .int .u8 0 :: .int .u8 0 :: .int .u8 0 :: .int .u8 0 :: .int .u8 0 :: .int .u8 0 :: .int .u8 0 :: .int .u8 0 :: .int .u8 0 :: .int .u8 0 :: .int .u8 0 :: .int .u8 0 :: .int .u8 0 :: .int .u8 0 :: .int .u8 0 :: .int .u8 0 :: .int .u8 0 :: .int .u8 0 :: .int .u8 0 :: .int .u8 0 :: .int .u8 0 :: .int .u8 0 :: .int .u8 0 :: .int .u8 0 :: .int .u8 0 :: .int .u8 0 :: .int .u8 0 :: .int .u8 0 :: .int .u8 0 :: .int .u8 0 :: .int .u8 0 :: .int .u8 0 :: .int .u8 0 :: .int .u8 0 :: .int .u8 0 :: []) := ⟨_, show still Tryd.prog (zeroValue 77) = some (.agg (List.toArray (.int .u8 0 :: .int .u8 0 :: .int .u8 0 :: .int .u8 0 :: .int .u8 0 :: .int .u8 0 :: .int .u8 0 :: .int .u8 0 :: .int .u8 0 :: .int .u8 0 :: .int .u8 0 :: .int .u8 0 :: .int .u8 0 :: .int .u8 0 :: .int .u8 0 :: .int .u8 0 :: .int .u8 0 :: .int .u8 0 :: .int .u8 0 :: .int .u8 0 :: .int .u8 0 :: .int .u8 0 :: .int .u8 0 :: .int .u8 0 :: .int .u8 0 :: .int .u8 0 :: .int .u8 0 :: .int .u8 0 :: .int .u8 0 :: .int .u8 0 :: .int .u8 0 :: .int .u8 0 :: .int .u8 0 :: .int .u8 0 :: .int .u8 0 :: .int .u8 0 :: .int .u8 0 :: .int .u8 0 :: []))) by kernel_rfl, .agg _⟩
instance : Ag Tryd.prog 78 4 := ⟨_, Tryd.underlying78, rfl, by kernel_rfl⟩
instance : FieldAt Tryd.prog 78 0 0 := ⟨_, _, 3, Tryd.underlying78, rfl, rfl, by kernel_rfl⟩
instance : OffsT Tryd.prog 78 [(0, 4)] [.int .u64 0, .int .u64 0, .int .u64 0, .int .u64 0] := ⟨(([(0, 4)] : List (Nat × Nat)).toArray[·]?), fun _ => by kernel_rfl, fun i p h => by simpa using h⟩
instance : ZeroT Tryd.prog 78 [.int .u64 0, .int .u64 0, .int .u64 0, .int .u64 0] := ⟨_, show still Tryd.prog (zeroValue 78) = some (.agg (List.toArray [.int .u64 0, .int .u64 0, .int .u64 0, .int .u64 0])) by kernel_rfl, .agg _⟩
instance : Ag Tryd.prog 79 2 := ⟨_, Tryd.underlying79, rfl, by kernel_rfl⟩
instance : FieldAt Tryd.prog 79 0 0 := ⟨_, _, 0, Tryd.underlying79, rfl, rfl, by kernel_rfl⟩
instance : FieldAt Tryd.prog 79 1 1 := ⟨_, _, 0, Tryd.underlying79, rfl, rfl, by kernel_rfl⟩
instance : OffsT Tryd.prog 79 [(0, 1), (1, 1)] [.string .empty, .bool false] := ⟨(([(0, 1), (1, 1)] : List (Nat × Nat)).toArray[·]?), fun _ => by kernel_rfl, fun i p h => by simpa using h⟩
instance : ZeroT Tryd.prog 79 [.string .empty, .bool false] := ⟨_, show still Tryd.prog (zeroValue 79) = some (.agg (List.toArray [.string .empty, .bool false])) by kernel_rfl, .agg _⟩
instance : Ag Tryd.prog 80 2 := ⟨_, Tryd.underlying80, rfl, by kernel_rfl⟩
instance : FieldAt Tryd.prog 80 0 0 := ⟨_, _, 0, Tryd.underlying80, rfl, rfl, by kernel_rfl⟩
instance : FieldAt Tryd.prog 80 1 1 := ⟨_, _, 0, Tryd.underlying80, rfl, rfl, by kernel_rfl⟩
instance : OffsT Tryd.prog 80 [(0, 1), (1, 1)] [.string .empty, .bool false] := ⟨(([(0, 1), (1, 1)] : List (Nat × Nat)).toArray[·]?), fun _ => by kernel_rfl, fun i p h => by simpa using h⟩
instance : ZeroT Tryd.prog 80 [.string .empty, .bool false] := ⟨_, show still Tryd.prog (zeroValue 80) = some (.agg (List.toArray [.string .empty, .bool false])) by kernel_rfl, .agg _⟩
instance : Ag Tryd.prog 81 613 := ⟨_, Tryd.underlying81, rfl, by kernel_rfl⟩
instance : FieldAt Tryd.prog 81 0 0 := ⟨_, _, 4, Tryd.underlying81, rfl, rfl, by kernel_rfl⟩
instance : FieldAt Tryd.prog 81 1 5 := ⟨_, _, 0, Tryd.underlying81, rfl, rfl, by kernel_rfl⟩
instance : FieldAt Tryd.prog 81 2 6 := ⟨_, _, 0, Tryd.underlying81, rfl, rfl, by kernel_rfl⟩
instance : FieldAt Tryd.prog 81 3 7 := ⟨_, _, 4, Tryd.underlying81, rfl, rfl, by kernel_rfl⟩
instance : FieldAt Tryd.prog 81 4 12 := ⟨_, _, 32, Tryd.underlying81, rfl, rfl, by kernel_rfl⟩
instance : FieldAt Tryd.prog 81 5 45 := ⟨_, _, 519, Tryd.underlying81, rfl, rfl, by kernel_rfl⟩
instance : FieldAt Tryd.prog 81 6 565 := ⟨_, _, 1, Tryd.underlying81, rfl, rfl, by kernel_rfl⟩
instance : FieldAt Tryd.prog 81 7 567 := ⟨_, _, 0, Tryd.underlying81, rfl, rfl, by kernel_rfl⟩
instance : FieldAt Tryd.prog 81 8 568 := ⟨_, _, 37, Tryd.underlying81, rfl, rfl, by kernel_rfl⟩
instance : FieldAt Tryd.prog 81 9 606 := ⟨_, _, 3, Tryd.underlying81, rfl, rfl, by kernel_rfl⟩
instance : FieldAt Tryd.prog 81 10 610 := ⟨_, _, 1, Tryd.underlying81, rfl, rfl, by kernel_rfl⟩
instance : FieldAt Tryd.prog 81 11 612 := ⟨_, _, 0, Tryd.underlying81, rfl, rfl, by kernel_rfl⟩
instance : Ag Tryd.prog 82 613 := ⟨_, Tryd.underlying82, rfl, by kernel_rfl⟩
instance : FieldAt Tryd.prog 82 0 0 := ⟨_, _, 4, Tryd.underlying82, rfl, rfl, by kernel_rfl⟩
instance : FieldAt Tryd.prog 82 1 5 := ⟨_, _, 0, Tryd.underlying82, rfl, rfl, by kernel_rfl⟩
instance : FieldAt Tryd.prog 82 2 6 := ⟨_, _, 0, Tryd.underlying82, rfl, rfl, by kernel_rfl⟩
instance : FieldAt Tryd.prog 82 3 7 := ⟨_, _, 4, Tryd.underlying82, rfl, rfl, by kernel_rfl⟩
instance : FieldAt Tryd.prog 82 4 12 := ⟨_, _, 32, Tryd.underlying82, rfl, rfl, by kernel_rfl⟩
instance : FieldAt Tryd.prog 82 5 45 := ⟨_, _, 519, Tryd.underlying82, rfl, rfl, by kernel_rfl⟩
instance : FieldAt Tryd.prog 82 6 565 := ⟨_, _, 1, Tryd.underlying82, rfl, rfl, by kernel_rfl⟩
instance : FieldAt Tryd.prog 82 7 567 := ⟨_, _, 0, Tryd.underlying82, rfl, rfl, by kernel_rfl⟩
instance : FieldAt Tryd.prog 82 8 568 := ⟨_, _, 37, Tryd.underlying82, rfl, rfl, by kernel_rfl⟩
instance : FieldAt Tryd.prog 82 9 606 := ⟨_, _, 3, Tryd.underlying82, rfl, rfl, by kernel_rfl⟩
instance : FieldAt Tryd.prog 82 10 610 := ⟨_, _, 1, Tryd.underlying82, rfl, rfl, by kernel_rfl⟩
instance : FieldAt Tryd.prog 82 11 612 := ⟨_, _, 0, Tryd.underlying82, rfl, rfl, by kernel_rfl⟩
instance : Sc Tryd.prog 84 := ⟨_, Tryd.underlying84, rfl, by kernel_rfl⟩
instance : ZeroT Tryd.prog 84 [.nilFunc] := ⟨.nilFunc, by kernel_rfl, .one rfl⟩
instance : Sc Tryd.prog 85 := ⟨_, Tryd.underlying85, rfl, by kernel_rfl⟩
instance : ZeroT Tryd.prog 85 [.nilFunc] := ⟨.nilFunc, by kernel_rfl, .one rfl⟩
instance : Sc Tryd.prog 86 := ⟨_, Tryd.underlying86, rfl, by kernel_rfl⟩
instance : ZeroT Tryd.prog 86 [.nilFunc] := ⟨.nilFunc, by kernel_rfl, .one rfl⟩
instance : Sc Tryd.prog 87 := ⟨_, Tryd.underlying87, rfl, by kernel_rfl⟩
instance : ZeroT Tryd.prog 87 [.pointer none] := ⟨.pointer none, by kernel_rfl, .one rfl⟩
instance : Ag Tryd.prog 88 6 := ⟨_, Tryd.underlying88, rfl, by kernel_rfl⟩
instance : FieldAt Tryd.prog 88 0 0 := ⟨_, _, 4, Tryd.underlying88, rfl, rfl, by kernel_rfl⟩
instance : FieldAt Tryd.prog 88 1 5 := ⟨_, _, 0, Tryd.underlying88, rfl, rfl, by kernel_rfl⟩
instance : OffsT Tryd.prog 88 [(0, 5), (5, 1)] [.int .i64 0, .int .i64 0, .string .empty, .string .empty, .string .empty, .slice none 0 0] := ⟨(([(0, 5), (5, 1)] : List (Nat × Nat)).toArray[·]?), fun _ => by kernel_rfl, fun i p h => by simpa using h⟩
instance : ZeroT Tryd.prog 88 [.int .i64 0, .int .i64 0, .string .empty, .string .empty, .string .empty, .slice none 0 0] := ⟨_, show still Tryd.prog (zeroValue 88) = some (.agg (List.toArray [.int .i64 0, .int .i64 0, .string .empty, .string .empty, .string .empty, .slice none 0 0])) by kernel_rfl, .agg _⟩
instance : Ag Tryd.prog 89 6 := ⟨_, Tryd.underlying89, rfl, by kernel_rfl⟩
instance : FieldAt Tryd.prog 89 0 0 := ⟨_, _, 4, Tryd.underlying89, rfl, rfl, by kernel_rfl⟩
instance : FieldAt Tryd.prog 89 1 5 := ⟨_, _, 0, Tryd.underlying89, rfl, rfl, by kernel_rfl⟩
instance : OffsT Tryd.prog 89 [(0, 5), (5, 1)] [.int .i64 0, .int .i64 0, .string .empty, .string .empty, .string .empty, .slice none 0 0] := ⟨(([(0, 5), (5, 1)] : List (Nat × Nat)).toArray[·]?), fun _ => by kernel_rfl, fun i p h => by simpa using h⟩
instance : ZeroT Tryd.prog 89 [.int .i64 0, .int .i64 0, .string .empty, .string .empty, .string .empty, .slice none 0 0] := ⟨_, show still Tryd.prog (zeroValue 89) = some (.agg (List.toArray [.int .i64 0, .int .i64 0, .string .empty, .string .empty, .string .empty, .slice none 0 0])) by kernel_rfl, .agg _⟩
instance : Sc Tryd.prog 90 := ⟨_, Tryd.underlying90, rfl, by kernel_rfl⟩
instance : ZeroT Tryd.prog 90 [.nilFunc] := ⟨.nilFunc, by kernel_rfl, .one rfl⟩
instance : Sc Tryd.prog 91 := ⟨_, Tryd.underlying91, rfl, by kernel_rfl⟩
instance : ZeroT Tryd.prog 91 [.nilFunc] := ⟨.nilFunc, by kernel_rfl, .one rfl⟩
instance : Sc Tryd.prog 92 := ⟨_, Tryd.underlying92, rfl, by kernel_rfl⟩
instance : ZeroT Tryd.prog 92 [.slice none 0 0] := ⟨.slice none 0 0, by kernel_rfl, .one rfl⟩
instance : SliceT Tryd.prog 92 5 1 1 := ⟨Tryd.underlying92, by decide, by decide, .int .u8 0, by kernel_rfl, by kernel_rfl⟩
instance : Sc Tryd.prog 93 := ⟨_, Tryd.underlying93, rfl, by kernel_rfl⟩
instance : ZeroT Tryd.prog 93 [.nilFunc] := ⟨.nilFunc, by kernel_rfl, .one rfl⟩
instance : Sc Tryd.prog 94 := ⟨_, Tryd.underlying94, rfl, by kernel_rfl⟩
instance : ZeroT Tryd.prog 94 [.nilFunc] := ⟨.nilFunc, by kernel_rfl, .one rfl⟩
instance : Sc Tryd.prog 95 := ⟨_, Tryd.underlying95, rfl, by kernel_rfl⟩
instance : ZeroT Tryd.prog 95 [.nilFunc] := ⟨.nilFunc, by kernel_rfl, .one rfl⟩
instance : Sc Tryd.prog 96 := ⟨_, Tryd.underlying96, rfl, by kernel_rfl⟩
instance : ZeroT Tryd.prog 96 [.nilFunc] := ⟨.nilFunc, by kernel_rfl, .one rfl⟩
instance : Sc Tryd.prog 97 := ⟨_, Tryd.underlying97, rfl, by kernel_rfl⟩
instance : ZeroT Tryd.prog 97 [.nilFunc] := ⟨.nilFunc, by kernel_rfl, .one rfl⟩
instance : Sc Tryd.prog 98 := ⟨_, Tryd.underlying98, rfl, by kernel_rfl⟩
instance : ZeroT Tryd.prog 98 [.nilFunc] := ⟨.nilFunc, by kernel_rfl, .one rfl⟩
instance : Sc Tryd.prog 99 := ⟨_, Tryd.underlying99, rfl, by kernel_rfl⟩
instance : ZeroT Tryd.prog 99 [.nilFunc] := ⟨.nilFunc, by kernel_rfl, .one rfl⟩
instance : Sc Tryd.prog 100 := ⟨_, Tryd.underlying100, rfl, by kernel_rfl⟩
instance : ZeroT Tryd.prog 100 [.nilFunc] := ⟨.nilFunc, by kernel_rfl, .one rfl⟩
instance : Sc Tryd.prog 101 := ⟨_, Tryd.underlying101, rfl, by kernel_rfl⟩
instance : ZeroT Tryd.prog 101 [.nilFunc] := ⟨.nilFunc, by kernel_rfl, .one rfl⟩
instance : Sc Tryd.prog 102 := ⟨_, Tryd.underlying102, rfl, by kernel_rfl⟩
instance : ZeroT Tryd.prog 102 [.nilFunc] := ⟨.nilFunc, by kernel_rfl, .one rfl⟩
instance : Sc Tryd.prog 104 := ⟨_, Tryd.underlying104, rfl, by kernel_rfl⟩
instance : ZeroT Tryd.prog 104 [.nilFunc] := ⟨.nilFunc, by kernel_rfl, .one rfl⟩
instance : Sc Tryd.prog 105 := ⟨_, Tryd.underlying105, rfl, by kernel_rfl⟩
instance : ZeroT Tryd.prog 105 [.nilFunc] := ⟨.nilFunc, by kernel_rfl, .one rfl⟩
instance : Sc Tryd.prog 106 := ⟨_, Tryd.underlying106, rfl, by kernel_rfl⟩
instance : ZeroT Tryd.prog 106 [.nilFunc] := ⟨.nilFunc, by kernel_rfl, .one rfl⟩
instance : Sc Tryd.prog 107 := ⟨_, Tryd.underlying107, rfl, by kernel_rfl⟩
instance : ZeroT Tryd.prog 107 [.nilFunc] := ⟨.nilFunc, by kernel_rfl, .one rfl⟩
instance : Sc Tryd.prog 108 := ⟨_, Tryd.underlying108, rfl, by kernel_rfl⟩
instance : ZeroT Tryd.prog 108 [.nilFunc] := ⟨.nilFunc, by kernel_rfl, .one rfl⟩
instance : Sc Tryd.prog 109 := ⟨_, Tryd.underlying109, rfl, by kernel_rfl⟩
instance : ZeroT Tryd.prog 109 [.nilFunc] := ⟨.nilFunc, by kernel_rfl, .one rfl⟩
instance : Sc Tryd.prog 110 := ⟨_, Tryd.underlying110, rfl, by kernel_rfl⟩
instance : ZeroT Tryd.prog 110 [.nilFunc] := ⟨.nilFunc, by kernel_rfl, .one rfl⟩
instance : Ag Tryd.prog 111 3 := ⟨_, Tryd.underlying111, rfl, by kernel_rfl⟩
instance : ArrT Tryd.prog 111 3 3 1 := ⟨Tryd.underlying111, by kernel_rfl⟩
instance : OffsT Tryd.prog 111 (arrOffs 3 1) [.int .i64 0, .int .i64 0, .int .i64 0] := ⟨fun i => some (i * 1, 1), fun _ => by kernel_rfl, arrOffs_at 3 1⟩
instance : ZeroT Tryd.prog 111 [.int .i64 0, .int .i64 0, .int .i64 0] := ⟨_, show still Tryd.prog (zeroValue 111) = some (.agg (List.toArray [.int .i64 0, .int .i64 0, .int .i64 0])) by kernel_rfl, .agg _⟩
instance : Sc Tryd.prog 112 := ⟨_, Tryd.underlying112, rfl, by kernel_rfl⟩
instance : ZeroT Tryd.prog 112 [.nilIface] := ⟨.nilIface, by kernel_rfl, .one rfl⟩
instance : Sc Tryd.prog 113 := ⟨_, Tryd.underlying113, rfl, by kernel_rfl⟩
instance : ZeroT Tryd.prog 113 [.nilIface] := ⟨.nilIface, by kernel_rfl, .one rfl⟩
instance : Sc Tryd.prog 115 := ⟨_, Tryd.underlying115, rfl, by kernel_rfl⟩
instance : ZeroT Tryd.prog 115 [.nilFunc] := ⟨.nilFunc, by kernel_rfl, .one rfl⟩
instance : Sc Tryd.prog 116 := ⟨_, Tryd.underlying116, rfl, by kernel_rfl⟩
instance : ZeroT Tryd.prog 116 [.int .u64 0] := ⟨.int .u64 0, by kernel_rfl, .one rfl⟩
instance : IntT Tryd.prog 116 .u64 := ⟨Tryd.underlying116⟩
instance : Sc Tryd.prog 117 := ⟨_, Tryd.underlying117, rfl, by kernel_rfl⟩
instance : ZeroT Tryd.prog 117 [.nilFunc] := ⟨.nilFunc, by kernel_rfl, .one rfl⟩
instance : Sc Tryd.prog 119 := ⟨_, Tryd.underlying119, rfl, by kernel_rfl⟩
instance : ZeroT Tryd.prog 119 [.nilFunc] := ⟨.nilFunc, by kernel_rfl, .one rfl⟩
instance : Ag Tryd.prog 120 4 := ⟨_, Tryd.underlying120, rfl, by kernel_rfl⟩
instance : FieldAt Tryd.prog 120 0 0 := ⟨_, _, 0, Tryd.underlying120, rfl, rfl, by kernel_rfl⟩
instance : FieldAt Tryd.prog 120 1 1 := ⟨_, _, 0, Tryd.underlying120, rfl, rfl, by kernel_rfl⟩
instance : FieldAt Tryd.prog 120 2 2 := ⟨_, _, 0, Tryd.underlying120, rfl, rfl, by kernel_rfl⟩
instance : FieldAt Tryd.prog 120 3 3 := ⟨_, _, 0, Tryd.underlying120, rfl, rfl, by kernel_rfl⟩
instance : OffsT Tryd.prog 120 [(0, 1), (1, 1), (2, 1), (3, 1)] [.string .empty, .string .empty, .bool false, .bool false] := ⟨(([(0, 1), (1, 1), (2, 1), (3, 1)] : List (Nat × Nat)).toArray[·]?), fun _ => by kernel_rfl, fun i p h => by simpa using h⟩
instance : ZeroT Tryd.prog 120 [.string .empty, .string .empty, .bool false, .bool false] := ⟨_, show still Tryd.prog (zeroValue 120) = some (.agg (List.toArray [.string .empty, .string .empty, .bool false, .bool false])) by kernel_rfl, .agg _⟩
instance : Ag Tryd.prog 121 4 := ⟨_, Tryd.underlying121, rfl, by kernel_rfl⟩
instance : FieldAt Tryd.prog 121 0 0 := ⟨_, _, 0, Tryd.underlying121, rfl, rfl, by kernel_rfl⟩
instance : FieldAt Tryd.prog 121 1 1 := ⟨_, _, 0, Tryd.underlying121, rfl, rfl, by kernel_rfl⟩
instance : FieldAt Tryd.prog 121 2 2 := ⟨_, _, 0, Tryd.underlying121, rfl, rfl, by kernel_rfl⟩
instance : FieldAt Tryd.prog 121 3 3 := ⟨_, _, 0, Tryd.underlying121, rfl, rfl, by kernel_rfl⟩
instance : OffsT Tryd.prog 121 [(0, 1), (1, 1), (2, 1), (3, 1)] [.string .empty, .string .empty, .bool false, .bool false] := ⟨(([(0, 1), (1, 1), (2, 1), (3, 1)] : List (Nat × Nat)).toArray[·]?), fun _ => by kernel_rfl, fun i p h => by simpa using h⟩
instance : ZeroT Tryd.prog 121 [.string .empty, .string .empty, .bool false, .bool false] := ⟨_, show still Tryd.prog (zeroValue 121) = some (.agg (List.toArray [.string .empty, .string .empty, .bool false, .bool false])) by kernel_rfl, .agg _⟩
instance : Sc Tryd.prog 122 := ⟨_, Tryd.underlying122, rfl, by kernel_rfl⟩
instance : ZeroT Tryd.prog 122 [.nilFunc] := ⟨.nilFunc, by kernel_rfl, .one rfl⟩
instance : Sc Tryd.prog 123 := ⟨_, Tryd.underlying123, rfl, by kernel_rfl⟩
instance : ZeroT Tryd.prog 123 [.nilFunc] := ⟨.nilFunc, by kernel_rfl, .one rfl⟩
instance : Sc Tryd.prog 124 := ⟨_, Tryd.underlying124, rfl, by kernel_rfl⟩
instance : ZeroT Tryd.prog 124 [.nilFunc] := ⟨.nilFunc, by kernel_rfl, .one rfl⟩
instance : Sc Tryd.prog 125 := ⟨_, Tryd.underlying125, rfl, by kernel_rfl⟩
instance : ZeroT Tryd.prog 125 [.nilFunc] := ⟨.nilFunc, by kernel_rfl, .one rfl⟩
instance : Sc Tryd.prog 127 := ⟨_, Tryd.underlying127, rfl, by kernel_rfl⟩
instance : ZeroT Tryd.prog 127 [.nilFunc] := ⟨.nilFunc, by kernel_rfl, .one rfl⟩
instance : Sc Tryd.prog 128 := ⟨_, Tryd.underlying128, rfl, by kernel_rfl⟩
instance : ZeroT Tryd.prog 128 [.nilFunc] := ⟨.nilFunc, by kernel_rfl, .one rfl⟩
instance : Sc Tryd.prog 129 := ⟨_, Tryd.underlying129, rfl, by kernel_rfl⟩
instance : ZeroT Tryd.prog 129 [.nilFunc] := ⟨.nilFunc, by kernel_rfl, .one rfl⟩
instance : Sc Tryd.prog 130 := ⟨_, Tryd.underlying130, rfl, by kernel_rfl⟩
instance : ZeroT Tryd.prog 130 [.nilFunc] := ⟨.nilFunc, by kernel_rfl, .one rfl⟩
instance : Sc Tryd.prog 131 := ⟨_, Tryd.underlying131, rfl, by kernel_rfl⟩
instance : ZeroT Tryd.prog 131 [.map none] := ⟨.map none, by kernel_rfl, .one rfl⟩
instance : Sc Tryd.prog 132 := ⟨_, Tryd.underlying132, rfl, by kernel_rfl⟩
instance : ZeroT Tryd.prog 132 [.nilFunc] := ⟨.nilFunc, by kernel_rfl, .one rfl⟩
instance : Sc Tryd.prog 133 := ⟨_, Tryd.underlying133, rfl, by kernel_rfl⟩
instance : ZeroT Tryd.prog 133 [.nilFunc] := ⟨.nilFunc, by kernel_rfl, .one rfl⟩
instance : Sc Tryd.prog 134 := ⟨_, Tryd.underlying134, rfl, by kernel_rfl⟩
instance : ZeroT Tryd.prog 134 [.nilFunc] := ⟨.nilFunc, by kernel_rfl, .one rfl⟩
instance : Sc Tryd.prog 135 := ⟨_, Tryd.underlying135, rfl, by kernel_rfl⟩
instance : ZeroT Tryd.prog 135 [.nilFunc] := ⟨.nilFunc, by kernel_rfl, .one rfl⟩
instance : Sc Tryd.prog 136 := ⟨_, Tryd.underlying136, rfl, by kernel_rfl⟩
instance : ZeroT Tryd.prog 136 [.nilFunc] := ⟨.nilFunc, by kernel_rfl, .one rfl⟩
instance : Sc Tryd.prog 137 := ⟨_, Tryd.underlying137, rfl, by kernel_rfl⟩
instance : ZeroT Tryd.prog 137 [.nilFunc] := ⟨.nilFunc, by kernel_rfl, .one rfl⟩
instance : Sc Tryd.prog 138 := ⟨_, Tryd.underlying138, rfl, by kernel_rfl⟩
instance : ZeroT Tryd.prog 138 [.nilFunc] := ⟨.nilFunc, by kernel_rfl, .one rfl⟩
instance : Sc Tryd.prog 139 := ⟨_, Tryd.underlying139, rfl, by kernel_rfl⟩
instance : ZeroT Tryd.prog 139 [.nilFunc] := ⟨.nilFunc, by kernel_rfl, .one rfl⟩
instance : Sc Tryd.prog 141 := ⟨_, Tryd.underlying141, rfl, by kernel_rfl⟩
instance : ZeroT Tryd.prog 141 [.nilFunc] := ⟨.nilFunc, by kernel_rfl, .one rfl⟩
instance : Sc Tryd.prog 142 := ⟨_, Tryd.underlying142, rfl, by kernel_rfl⟩
instance : ZeroT Tryd.prog 142 [.nilFunc] := ⟨.nilFunc, by kernel_rfl, .one rfl⟩
instance : Sc Tryd.prog 143 := ⟨_, Tryd.underlying143, rfl, by kernel_rfl⟩
instance : ZeroT Tryd.prog 143 [.nilFunc] := ⟨.nilFunc, by kernel_rfl, .one rfl⟩
instance : Sc Tryd.prog 144 := ⟨_, Tryd.underlying144, rfl, by kernel_rfl⟩
instance : ZeroT Tryd.prog 144 [.nilFunc] := ⟨.nilFunc, by kernel_rfl, .one rfl⟩
instance : Ag Tryd.prog 145 256 := ⟨_, Tryd.underlying145, rfl, by kernel_rfl⟩
instance : ArrT Tryd.prog 145 256 4 1 := ⟨Tryd.underlying145, by kernel_rfl⟩
instance : Ag Tryd.prog 146 256 := ⟨_, Tryd.underlying146, rfl, by kernel_rfl⟩
instance : ArrT Tryd.prog 146 256 4 1 := ⟨Tryd.underlying146, by kernel_rfl⟩
instance : Sc Tryd.prog 148 := ⟨_, Tryd.underlying148, rfl, by kernel_rfl⟩
instance : ZeroT Tryd.prog 148 [.nilFunc] := ⟨.nilFunc, by kernel_rfl, .one rfl⟩
instance : Sc Tryd.prog 149 := ⟨_, Tryd.underlying149, rfl, by kernel_rfl⟩
instance : ZeroT Tryd.prog 149 [.nilFunc] := ⟨.nilFunc, by kernel_rfl, .one rfl⟩
instance : Sc Tryd.prog 150 := ⟨_, Tryd.underlying150, rfl, by kernel_rfl⟩
instance : ZeroT Tryd.prog 150 [.pointer none] := ⟨.pointer none, by kernel_rfl, .one rfl⟩
instance : Sc Tryd.prog 151 := ⟨_, Tryd.underlying151, rfl, by kernel_rfl⟩
instance : ZeroT Tryd.prog 151 [.nilFunc] := ⟨.nilFunc, by kernel_rfl, .one rfl⟩
instance : Sc Tryd.prog 152 := ⟨_, Tryd.underlying152, rfl, by kernel_rfl⟩
instance : ZeroT Tryd.prog 152 [.nilFunc] := ⟨.nilFunc, by kernel_rfl, .one rfl⟩
instance : Sc Tryd.prog 153 := ⟨_, Tryd.underlying153, rfl, by kernel_rfl⟩
instance : ZeroT Tryd.prog 153 [.nilFunc] := ⟨.nilFunc, by kernel_rfl, .one rfl⟩
instance : Sc Tryd.prog 154 := ⟨_, Tryd.underlying154, rfl, by kernel_rfl⟩
instance : ZeroT Tryd.prog 154 [.nilFunc] := ⟨.nilFunc, by kernel_rfl, .one rfl⟩
instance : Sc Tryd.prog 155 := ⟨_, Tryd.underlying155, rfl, by kernel_rfl⟩
instance : ZeroT Tryd.prog 155 [.nilFunc] := ⟨.nilFunc, by kernel_rfl, .one rfl⟩
instance : Sc Tryd.prog 156 := ⟨_, Tryd.underlying156, rfl, by kernel_rfl⟩
instance : ZeroT Tryd.prog 156 [.nilFunc] := ⟨.nilFunc, by kernel_rfl, .one rfl⟩
instance : Sc Tryd.prog 158 := ⟨_, Tryd.underlying158, rfl, by kernel_rfl⟩
instance : ZeroT Tryd.prog 158 [.nilFunc] := ⟨.nilFunc, by kernel_rfl, .one rfl⟩
instance : Sc Tryd.prog 159 := ⟨_, Tryd.underlying159, rfl, by kernel_rfl⟩
instance : ZeroT Tryd.prog 159 [.nilFunc] := ⟨.nilFunc, by kernel_rfl, .one rfl⟩
instance : Sc Tryd.prog 160 := ⟨_, Tryd.underlying160, rfl, by kernel_rfl⟩
instance : ZeroT Tryd.prog 160 [.nilFunc] := ⟨.nilFunc, by kernel_rfl, .one rfl⟩
instance : Sc Tryd.prog 161 := ⟨_, Tryd.underlying161, rfl, by kernel_rfl⟩
instance : ZeroT Tryd.prog 161 [.nilFunc] := ⟨.nilFunc, by kernel_rfl, .one rfl⟩
instance : Sc Tryd.prog 162 := ⟨_, Tryd.underlying162, rfl, by kernel_rfl⟩
instance : ZeroT Tryd.prog 162 [.nilFunc] := ⟨.nilFunc, by kernel_rfl, .one rfl⟩
instance : Sc Tryd.prog 163 := ⟨_, Tryd.underlying163, rfl, by kernel_rfl⟩
instance : ZeroT Tryd.prog 163 [.nilFunc] := ⟨.nilFunc, by kernel_rfl, .one rfl⟩
instance : Sc Tryd.prog 164 := ⟨_, Tryd.underlying164, rfl, by kernel_rfl⟩
instance : ZeroT Tryd.prog 164 [.nilFunc] := ⟨.nilFunc, by kernel_rfl, .one rfl⟩
instance : Sc Tryd.prog 165 := ⟨_, Tryd.underlying165, rfl, by kernel_rfl⟩
instance : ZeroT Tryd.prog 165 [.nilFunc] := ⟨.nilFunc, by kernel_rfl, .one rfl⟩
instance : Ag Tryd.prog 166 1 := ⟨_, Tryd.underlying166, rfl, by kernel_rfl⟩
instance : FieldAt Tryd.prog 166 0 0 := ⟨_, _, 0, Tryd.underlying166, rfl, rfl, by kernel_rfl⟩
instance : OffsT Tryd.prog 166 [(0, 1)] [.slice none 0 0] := ⟨(([(0, 1)] : List (Nat × Nat)).toArray[·]?), fun _ => by kernel_rfl, fun i p h => by simpa using h⟩
instance : ZeroT Tryd.prog 166 [.slice none 0 0] := ⟨_, show still Tryd.prog (zeroValue 166) = some (.agg (List.toArray [.slice none 0 0])) by kernel_rfl, .agg _⟩
instance : Ag Tryd.prog 167 1 := ⟨_, Tryd.underlying167, rfl, by kernel_rfl⟩
instance : FieldAt Tryd.prog 167 0 0 := ⟨_, _, 0, Tryd.underlying167, rfl, rfl, by kernel_rfl⟩
instance : OffsT Tryd.prog 167 [(0, 1)] [.slice none 0 0] := ⟨(([(0, 1)] : List (Nat × Nat)).toArray[·]?), fun _ => by kernel_rfl, fun i p h => by simpa using h⟩
instance : ZeroT Tryd.prog 167 [.slice none 0 0] := ⟨_, show still Tryd.prog (zeroValue 167) = some (.agg (List.toArray [.slice none 0 0])) by kernel_rfl, .agg _⟩
instance : Sc Tryd.prog 168 := ⟨_, Tryd.underlying168, rfl, by kernel_rfl⟩
instance : ZeroT Tryd.prog 168 [.nilFunc] := ⟨.nilFunc, by kernel_rfl, .one rfl⟩
instance : Ag Tryd.prog 169 4 := ⟨_, Tryd.underlying169, rfl, by kernel_rfl⟩
instance : FieldAt Tryd.prog 169 0 0 := ⟨_, _, 0, Tryd.underlying169, rfl, rfl, by kernel_rfl⟩
instance : FieldAt Tryd.prog 169 1 1 := ⟨_, _, 2, Tryd.underlying169, rfl, rfl, by kernel_rfl⟩
instance : OffsT Tryd.prog 169 [(0, 1), (1, 3)] [.int .i64 0, .int .i64 0, .int .i64 0, .int .i64 0] := ⟨(([(0, 1), (1, 3)] : List (Nat × Nat)).toArray[·]?), fun _ => by kernel_rfl, fun i p h => by simpa using h⟩
instance : ZeroT Tryd.prog 169 [.int .i64 0, .int .i64 0, .int .i64 0, .int .i64 0] := ⟨_, show still Tryd.prog (zeroValue 169) = some (.agg (List.toArray [.int .i64 0, .int .i64 0, .int .i64 0, .int .i64 0])) by kernel_rfl, .agg _⟩
instance : Ag Tryd.prog 170 4 := ⟨_, Tryd.underlying170, rfl, by kernel_rfl⟩
instance : FieldAt Tryd.prog 170 0 0 := ⟨_, _, 0, Tryd.underlying170, rfl, rfl, by kernel_rfl⟩
instance : FieldAt Tryd.prog 170 1 1 := ⟨_, _, 2, Tryd.underlying170, rfl, rfl, by kernel_rfl⟩
instance : OffsT Tryd.prog 170 [(0, 1), (1, 3)] [.int .i64 0, .int .i64 0, .int .i64 0, .int .i64 0] := ⟨(([(0, 1), (1, 3)] : List (Nat × Nat)).toArray[·]?), fun _ => by kernel_rfl, fun i p h => by simpa using h⟩
instance : ZeroT Tryd.prog 170 [.int .i64 0, .int .i64 0, .int .i64 0, .int .i64 0] := ⟨_, show still Tryd.prog (zeroValue 170) = some (.agg (List.toArray [.int .i64 0, .int .i64 0, .int .i64 0, .int .i64 0])) by kernel_rfl, .agg _⟩
instance : Sc Tryd.prog 171 := ⟨_, Tryd.underlying171, rfl, by kernel_rfl⟩
instance : ZeroT Tryd.prog 171 [.nilFunc] := ⟨.nilFunc, by kernel_rfl, .one rfl⟩
instance : Sc Tryd.prog 172 := ⟨_, Tryd.underlying172, rfl, by kernel_rfl⟩
instance : ZeroT Tryd.prog 172 [.nilFunc] := ⟨.nilFunc, by kernel_rfl, .one rfl⟩
instance : Sc Tryd.prog 173 := ⟨_, Tryd.underlying173, rfl, by kernel_rfl⟩
instance : ZeroT Tryd.prog 173 [.nilFunc] := ⟨.nilFunc, by kernel_rfl, .one rfl⟩
instance : Sc Tryd.prog 174 := ⟨_, Tryd.underlying174, rfl, by kernel_rfl⟩
instance : ZeroT Tryd.prog 174 [.pointer none] := ⟨.pointer none, by kernel_rfl, .one rfl⟩
instance : Ag Tryd.prog 175 2 := ⟨_, Tryd.underlying175, rfl, by kernel_rfl⟩
instance : FieldAt Tryd.prog 175 0 0 := ⟨_, _, 0, Tryd.underlying175, rfl, rfl, by kernel_rfl⟩
instance : FieldAt Tryd.prog 175 1 1 := ⟨_, _, 0, Tryd.underlying175, rfl, rfl, by kernel_rfl⟩
instance : OffsT Tryd.prog 175 [(0, 1), (1, 1)] [.pointer none, .slice none 0 0] := ⟨(([(0, 1), (1, 1)] : List (Nat × Nat)).toArray[·]?), fun _ => by kernel_rfl, fun i p h => by simpa using h⟩
instance : ZeroT Tryd.prog 175 [.pointer none, .slice none 0 0] := ⟨_, show still Tryd.prog (zeroValue 175) = some (.agg (List.toArray [.pointer none, .slice none 0 0])) by kernel_rfl, .agg _⟩
instance : Ag Tryd.prog 176 2 := ⟨_, Tryd.underlying176, rfl, by kernel_rfl⟩
instance : FieldAt Tryd.prog 176 0 0 := ⟨_, _, 0, Tryd.underlying176, rfl, rfl, by kernel_rfl⟩
instance : FieldAt Tryd.prog 176 1 1 := ⟨_, _, 0, Tryd.underlying176, rfl, rfl, by kernel_rfl⟩
instance : OffsT Tryd.prog 176 [(0, 1), (1, 1)] [.pointer none, .slice none 0 0] := ⟨(([(0, 1), (1, 1)] : List (Nat × Nat)).toArray[·]?), fun _ => by kernel_rfl, fun i p h => by simpa using h⟩
instance : ZeroT Tryd.prog 176 [.pointer none, .slice none 0 0] := ⟨_, show still Tryd.prog (zeroValue 176) = some (.agg (List.toArray [.pointer none, .slice none 0 0])) by kernel_rfl, .agg _⟩
instance : Sc Tryd.prog 177 := ⟨_, Tryd.underlying177, rfl, by kernel_rfl⟩
instance : ZeroT Tryd.prog 177 [.nilFunc] := ⟨.nilFunc, by kernel_rfl, .one rfl⟩
instance : Sc Tryd.prog 178 := ⟨_, Tryd.underlying178, rfl, by kernel_rfl⟩
instance : ZeroT Tryd.prog 178 [.nilFunc] := ⟨.nilFunc, by kernel_rfl, .one rfl⟩
instance : Ag Tryd.prog 179 2 := ⟨_, Tryd.underlying179, rfl, by kernel_rfl⟩
instance : FieldAt Tryd.prog 179 0 0 := ⟨_, _, 0, Tryd.underlying179, rfl, rfl, by kernel_rfl⟩
instance : FieldAt Tryd.prog 179 1 1 := ⟨_, _, 0, Tryd.underlying179, rfl, rfl, by kernel_rfl⟩
instance : OffsT Tryd.prog 179 [(0, 1), (1, 1)] [.int .u8 0, .int .u8 0] := ⟨(([(0, 1), (1, 1)] : List (Nat × Nat)).toArray[·]?), fun _ => by kernel_rfl, fun i p h => by simpa using h⟩
instance : ZeroT Tryd.prog 179 [.int .u8 0, .int .u8 0] := ⟨_, show still Tryd.prog (zeroValue 179) = some (.agg (List.toArray [.int .u8 0, .int .u8 0])) by kernel_rfl, .agg _⟩
instance : Ag Tryd.prog 180 2 := ⟨_, Tryd.underlying180, rfl, by kernel_rfl⟩
instance : FieldAt Tryd.prog 180 0 0 := ⟨_, _, 0, Tryd.underlying180, rfl, rfl, by kernel_rfl⟩
instance : FieldAt Tryd.prog 180 1 1 := ⟨_, _, 0, Tryd.underlying180, rfl, rfl, by kernel_rfl⟩
instance : OffsT Tryd.prog 180 [(0, 1), (1, 1)] [.int .u8 0, .int .u8 0] := ⟨(([(0, 1), (1, 1)] : List (Nat × Nat)).toArray[·]?), fun _ => by kernel_rfl, fun i p h => by simpa using h⟩
instance : ZeroT Tryd.prog 180 [.int .u8 0, .int .u8 0] := ⟨_, show still Tryd.prog (zeroValue 180) = some (.agg (List.toArray [.int .u8 0, .int .u8 0])) by kernel_rfl, .agg _⟩
instance : Ag Tryd.prog 181 32 := ⟨_, Tryd.underlying181, rfl, by kernel_rfl⟩
instance : ArrT Tryd.prog 181 16 180 2 := ⟨Tryd.underlying181, by kernel_rfl⟩
instance : OffsT Tryd.prog 181 (arrOffs 16 2) (.int .u8 0 :: .int .u8 0 :: .int .u8 0 :: .int .u8 0 :: .int .u8 0 :: .int .u8 0 :: .int .u8 0 :: .int .u8 0 :: .int .u8 0 :: .int .u8 0 :: .int .u8 0 :: .int .u8 0 :: .int .u8 0 :: .int .u8 0 :: .int .u8 0 :: .int .u8 0 :: .int .u8 0 :: .int .u8 0 :: .int .u8 0 :: .int .u8 0 :: .int .u8 0 :: .int .u8 0 :: .int .u8 0 :: .int .u8 0 :: .int .u8 0 :: .int .u8 0 :: .int .u8 0 :: .int .u8 0 :: .int .u8 0 :: .int .u8 0 :: .int .u8 0 :: .int .u8 0 :: []) := ⟨fun i => some (i * 2, 2), fun _ => by kernel_rfl, arrOffs_at 16 2⟩
instance : ZeroT Tryd.prog 181 (.int .u8 0 :: .int .u8 0 :: .int .u8 0 :: .int .u8 0 :: .int .u8 0 :: .int .u8 0 :: .int .u8 0 :: .int .u8 0 :: .int .u8 0 :: .int .u8 0 :: .int .u8 0 :: .int .u8 0 :: .int .u8 0 :: .int .u8 0 :: .int .u8 0 :: .int .u8 0 :: .int .u8 0 :: .int .u8 0 :: .int .u8 0 :: .int .u8 0 :: .int .u8 0 :: .int .u8 0 :: .int .u8 0 :: .int .u8 0 :: .int .u8 0 :: .int .u8 0 :: .int .u8 0 :: .int .u8 0 :: .int .u8 0 :: .int .u8 0 :: .int .u8 0 :: .int .u8 0 :: []) := ⟨_, show still Tryd.prog (zeroValue 181) = some (.agg (List.toArray (.int .u8 0 :: .int .u8 0 :: .int .u8 0 :: .int .u8 0 :: .int .u8 0 :: .int .u8 0 :: .int .u8 0 :: .int .u8 0 :: .int .u8 0 :: .int .u8 0 :: .int .u8 0 :: .int .u8 0 :: .int .u8 0 :: .int .u8 0 :: .int .u8 0 :: .int .u8 0 :: .int .u8 0 :: .int .u8 0 :: .int .u8 0 :: .int .u8 0 :: .int .u8 0 :: .int .u8 0 :: .int .u8 0 :: .int .u8 0 :: .int .u8 0 :: .int .u8 0 :: .int .u8 0 :: .int .u8 0 :: .int .u8 0 :: .int .u8 0 :: .int .u8 0 :: .int .u8 0 :: []))) by kernel_rfl, .agg _⟩
instance : Sc Tryd.prog 182 := ⟨_, Tryd.underlying182, rfl, by kernel_rfl⟩
instance : ZeroT Tryd.prog 182 [.nilFunc] := ⟨.nilFunc, by kernel_rfl, .one rfl⟩
instance : Sc Tryd.prog 183 := ⟨_, Tryd.underlying183, rfl, by kernel_rfl⟩
instance : ZeroT Tryd.prog 183 [.nilFunc] := ⟨.nilFunc, by kernel_rfl, .one rfl⟩
instance : Sc Tryd.prog 184 := ⟨_, Tryd.underlying184, rfl, by kernel_rfl⟩
instance : ZeroT Tryd.prog 184 [.nilFunc] := ⟨.nilFunc, by kernel_rfl, .one rfl⟩
instance : Sc Tryd.prog 185 := ⟨_, Tryd.underlying185, rfl, by kernel_rfl⟩
instance : ZeroT Tryd.prog 185 [.nilFunc] := ⟨.nilFunc, by kernel_rfl, .one rfl⟩
instance : Sc Tryd.prog 186 := ⟨_, Tryd.underlying186, rfl, by kernel_rfl⟩
instance : ZeroT Tryd.prog 186 [.nilFunc] := ⟨.nilFunc, by kernel_rfl, .one rfl⟩
instance : Sc Tryd.prog 188 := ⟨_, Tryd.underlying188, rfl, by kernel_rfl⟩
instance : ZeroT Tryd.prog 188 [.nilFunc] := ⟨.nilFunc, by kernel_rfl, .one rfl⟩
instance : Sc Tryd.prog 189 := ⟨_, Tryd.underlying189, rfl, by kernel_rfl⟩
instance : ZeroT Tryd.prog 189 [.nilFunc] := ⟨.nilFunc, by kernel_rfl, .one rfl⟩
instance : Sc Tryd.prog 190 := ⟨_, Tryd.underlying190, rfl, by kernel_rfl⟩
instance : ZeroT Tryd.prog 190 [.int .i64 0] := ⟨.int .i64 0, by kernel_rfl, .one rfl⟩
instance : IntT Tryd.prog 190 .i64 := ⟨Tryd.underlying190⟩
instance : Sc Tryd.prog 192 := ⟨_, Tryd.underlying192, rfl, by kernel_rfl⟩
instance : ZeroT Tryd.prog 192 [.nilFunc] := ⟨.nilFunc, by kernel_rfl, .one rfl⟩
instance : Sc Tryd.prog 193 := ⟨_, Tryd.underlying193, rfl, by kernel_rfl⟩
instance : ZeroT Tryd.prog 193 [.pointer none] := ⟨.pointer none, by kernel_rfl, .one rfl⟩
instance : Sc Tryd.prog 194 := ⟨_, Tryd.underlying194, rfl, by kernel_rfl⟩
instance : ZeroT Tryd.prog 194 [.nilFunc] := ⟨.nilFunc, by kernel_rfl, .one rfl⟩
instance : Sc Tryd.prog 195 := ⟨_, Tryd.underlying195, rfl, by kernel_rfl⟩
instance : ZeroT Tryd.prog 195 [.nilFunc] := ⟨.nilFunc, by kernel_rfl, .one rfl⟩
instance : Sc Tryd.prog 197 := ⟨_, Tryd.underlying197, rfl, by kernel_rfl⟩
instance : ZeroT Tryd.prog 197 [.nilFunc] := ⟨.nilFunc, by kernel_rfl, .one rfl⟩
instance : Sc Tryd.prog 198 := ⟨_, Tryd.underlying198, rfl, by kernel_rfl⟩
instance : ZeroT Tryd.prog 198 [.nilFunc] := ⟨.nilFunc, by kernel_rfl, .one rfl⟩
instance : Sc Tryd.prog 200 := ⟨_, Tryd.underlying200, rfl, by kernel_rfl⟩
instance : ZeroT Tryd.prog 200 [.nilFunc] := ⟨.nilFunc, by kernel_rfl, .one rfl⟩
instance : Sc Tryd.prog 201 := ⟨_, Tryd.underlying201, rfl, by kernel_rfl⟩
instance : ZeroT Tryd.prog 201 [.nilFunc] := ⟨.nilFunc, by kernel_rfl, .one rfl⟩
instance : Sc Tryd.prog 202 := ⟨_, Tryd.underlying202, rfl, by kernel_rfl⟩
instance : ZeroT Tryd.prog 202 [.nilFunc] := ⟨.nilFunc, by kernel_rfl, .one rfl⟩
instance : Sc Tryd.prog 203 := ⟨_, Tryd.underlying203, rfl, by kernel_rfl⟩
instance : ZeroT Tryd.prog 203 [.nilFunc] := ⟨.nilFunc, by kernel_rfl, .one rfl⟩
instance : Sc Tryd.prog 204 := ⟨_, Tryd.underlying204, rfl, by kernel_rfl⟩
instance : ZeroT Tryd.prog 204 [.nilFunc] := ⟨.nilFunc, by kernel_rfl, .one rfl⟩
instance : Sc Tryd.prog 205 := ⟨_, Tryd.underlying205, rfl, by kernel_rfl⟩
instance : ZeroT Tryd.prog 205 [.nilFunc] := ⟨.nilFunc, by kernel_rfl, .one rfl⟩
instance : Sc Tryd.prog 206 := ⟨_, Tryd.underlying206, rfl, by kernel_rfl⟩
instance : ZeroT Tryd.prog 206 [.nilFunc] := ⟨.nilFunc, by kernel_rfl, .one rfl⟩
instance : Sc Tryd.prog 207 := ⟨_, Tryd.underlying207, rfl, by kernel_rfl⟩
instance : ZeroT Tryd.prog 207 [.nilFunc] := ⟨.nilFunc, by kernel_rfl, .one rfl⟩
instance : Sc Tryd.prog 208 := ⟨_, Tryd.underlying208, rfl, by kernel_rfl⟩
instance : ZeroT Tryd.prog 208 [.pointer none] := ⟨.pointer none, by kernel_rfl, .one rfl⟩
instance : Sc Tryd.prog 210 := ⟨_, Tryd.underlying210, rfl, by kernel_rfl⟩
instance : ZeroT Tryd.prog 210 [.nilFunc] := ⟨.nilFunc, by kernel_rfl, .one rfl⟩
instance : Sc Tryd.prog 211 := ⟨_, Tryd.underlying211, rfl, by kernel_rfl⟩
instance : ZeroT Tryd.prog 211 [.nilFunc] := ⟨.nilFunc, by kernel_rfl, .one rfl⟩
instance : Ag Tryd.prog 212 24 := ⟨_, Tryd.underlying212, rfl, by kernel_rfl⟩
instance : ArrT Tryd.prog 212 24 5 1 := ⟨Tryd.underlying212, by kernel_rfl⟩
instance : OffsT Tryd.prog 212 (arrOffs 24 1) (.int .u8 0 :: .int .u8 0 :: .int .u8 0 :: .int .u8 0 :: .int .u8 0 :: .int .u8 0 :: .int .u8 0 :: .int .u8 0 :: .int .u8 0 :: .int .u8 0 :: .int .u8 0 :: .int .u8 0 :: .int .u8 0 :: .int .u8 0 :: .int .u8 0 :: .int .u8 0 :: .int .u8 0 :: .int .u8 0 :: .int .u8 0 :: .int .u8 0 :: .int .u8 0 :: .int .u8 0 :: .int .u8 0 :: .int .u8 0 :: []) := ⟨fun i => some (i * 1, 1), fun _ => by kernel_rfl, arrOffs_at 24 1⟩
instance : ZeroT Tryd.prog 212 (.int .u8 0 :: .int .u8 0 :: .int .u8 0 :: .int .u8 0 :: .int .u8 0 :: .int .u8 0 :: .int .u8 0 :: .int .u8 0 :: .int .u8 0 :: .int .u8 0 :: .int .u8 0 :: .int .u8 0 :: .int .u8 0 :: .int .u8 0 :: .int .u8 0 :: .int .u8 0 :: .int .u8 0 :: .int .u8 0 :: .int .u8 0 :: .int .u8 0 :: .int .u8 0 :: .int .u8 0 :: .int .u8 0 :: .int .u8 0 :: []) := ⟨_, show still Tryd.prog (zeroValue 212) = some (.agg (List.toArray (.int .u8 0 :: .int .u8 0 :: .int .u8 0 :: .int .u8 0 :: .int .u8 0 :: .int .u8 0 :: .int .u8 0 :: .int .u8 0 :: .int .u8 0 :: .int .u8 0 :: .int .u8 0 :: .int .u8 0 :: .int .u8 0 :: .int .u8 0 :: .int .u8 0 :: .int .u8 0 :: .int .u8 0 :: .int .u8 0 :: .int .u8 0 :: .int .u8 0 :: .int .u8 0 :: .int .u8 0 :: .int .u8 0 :: .int .u8 0 :: []))) by kernel_rfl, .agg _⟩
instance : Sc Tryd.prog 213 := ⟨_, Tryd.underlying213, rfl, by kernel_rfl⟩
instance : ZeroT Tryd.prog 213 [.nilFunc] := ⟨.nilFunc, by kernel_rfl, .one rfl⟩
instance : Sc Tryd.prog 214 := ⟨_, Tryd.underlying214, rfl, by kernel_rfl⟩
instance : ZeroT Tryd.prog 214 [.nilFunc] := ⟨.nilFunc, by kernel_rfl, .one rfl⟩
instance : Sc Tryd.prog 216 := ⟨_, Tryd.underlying216, rfl, by kernel_rfl⟩
instance : ZeroT Tryd.prog 216 [.nilFunc] := ⟨.nilFunc, by kernel_rfl, .one rfl⟩
instance : Sc Tryd.prog 217 := ⟨_, Tryd.underlying217, rfl, by kernel_rfl⟩
instance : ZeroT Tryd.prog 217 [.nilFunc] := ⟨.nilFunc, by kernel_rfl, .one rfl⟩
instance : Sc Tryd.prog 218 := ⟨_, Tryd.underlying218, rfl, by kernel_rfl⟩
instance : ZeroT Tryd.prog 218 [.nilFunc] := ⟨.nilFunc, by kernel_rfl, .one rfl⟩
instance : Sc Tryd.prog 220 := ⟨_, Tryd.underlying220, rfl, by kernel_rfl⟩
instance : ZeroT Tryd.prog 220 [.nilFunc] := ⟨.nilFunc, by kernel_rfl, .one rfl⟩
instance : Ag Tryd.prog 221 3 := ⟨_, Tryd.underlying221, rfl, by kernel_rfl⟩
instance : FieldAt Tryd.prog 221 0 0 := ⟨_, _, 0, Tryd.underlying221, rfl, rfl, by kernel_rfl⟩
instance : FieldAt Tryd.prog 221 1 1 := ⟨_, _, 0, Tryd.underlying221, rfl, rfl, by kernel_rfl⟩
instance : FieldAt Tryd.prog 221 2 2 := ⟨_, _, 0, Tryd.underlying221, rfl, rfl, by kernel_rfl⟩
instance : OffsT Tryd.prog 221 [(0, 1), (1, 1), (2, 1)] [.string .empty, .string .empty, .nilIface] := ⟨(([(0, 1), (1, 1), (2, 1)] : List (Nat × Nat)).toArray[·]?), fun _ => by kernel_rfl, fun i p h => by simpa using h⟩
instance : ZeroT Tryd.prog 221 [.string .empty, .string .empty, .nilIface] := ⟨_, show still Tryd.prog (zeroValue 221) = some (.agg (List.toArray [.string .empty, .string .empty, .nilIface])) by kernel_rfl, .agg _⟩
instance : Ag Tryd.prog 222 3 := ⟨_, Tryd.underlying222, rfl, by kernel_rfl⟩
instance : FieldAt Tryd.prog 222 0 0 := ⟨_, _, 0, Tryd.underlying222, rfl, rfl, by kernel_rfl⟩
instance : FieldAt Tryd.prog 222 1 1 := ⟨_, _, 0, Tryd.underlying222, rfl, rfl, by kernel_rfl⟩
instance : FieldAt Tryd.prog 222 2 2 := ⟨_, _, 0, Tryd.underlying222, rfl, rfl, by kernel_rfl⟩
instance : OffsT Tryd.prog 222 [(0, 1), (1, 1), (2, 1)] [.string .empty, .string .empty, .nilIface] := ⟨(([(0, 1), (1, 1), (2, 1)] : List (Nat × Nat)).toArray[·]?), fun _ => by kernel_rfl, fun i p h => by simpa using h⟩
instance : ZeroT Tryd.prog 222 [.string .empty, .string .empty, .nilIface] := ⟨_, show still Tryd.prog (zeroValue 222) = some (.agg (List.toArray [.string .empty, .string .empty, .nilIface])) by kernel_rfl, .agg _⟩
instance : Sc Tryd.prog 223 := ⟨_, Tryd.underlying223, rfl, by kernel_rfl⟩
instance : ZeroT Tryd.prog 223 [.nilFunc] := ⟨.nilFunc, by kernel_rfl, .one rfl⟩
instance : Sc Tryd.prog 224 := ⟨_, Tryd.underlying224, rfl, by kernel_rfl⟩
instance : ZeroT Tryd.prog 224 [.nilFunc] := ⟨.nilFunc, by kernel_rfl, .one rfl⟩
instance : Sc Tryd.prog 225 := ⟨_, Tryd.underlying225, rfl, by kernel_rfl⟩
instance : ZeroT Tryd.prog 225 [.nilFunc] := ⟨.nilFunc, by kernel_rfl, .one rfl⟩
instance : Sc Tryd.prog 226 := ⟨_, Tryd.underlying226, rfl, by kernel_rfl⟩
instance : ZeroT Tryd.prog 226 [.int .u32 0] := ⟨.int .u32 0, by kernel_rfl, .one rfl⟩
instance : IntT Tryd.prog 226 .u32 := ⟨Tryd.underlying226⟩
instance : Sc Tryd.prog 227 := ⟨_, Tryd.underlying227, rfl, by kernel_rfl⟩
instance : Sc Tryd.prog 228 := ⟨_, Tryd.underlying228, rfl, by kernel_rfl⟩
instance : ZeroT Tryd.prog 228 [.nilFunc] := ⟨.nilFunc, by kernel_rfl, .one rfl⟩
instance : Sc Tryd.prog 229 := ⟨_, Tryd.underlying229, rfl, by kernel_rfl⟩
instance : ZeroT Tryd.prog 229 [.nilFunc] := ⟨.nilFunc, by kernel_rfl, .one rfl⟩
instance : Sc Tryd.prog 231 := ⟨_, Tryd.underlying231, rfl, by kernel_rfl⟩
instance : ZeroT Tryd.prog 231 [.nilFunc] := ⟨.nilFunc, by kernel_rfl, .one rfl⟩
instance : Sc Tryd.prog 233 := ⟨_, Tryd.underlying233, rfl, by kernel_rfl⟩
instance : ZeroT Tryd.prog 233 [.nilFunc] := ⟨.nilFunc, by kernel_rfl, .one rfl⟩
instance : Sc Tryd.prog 234 := ⟨_, Tryd.underlying234, rfl, by kernel_rfl⟩
instance : ZeroT Tryd.prog 234 [.nilFunc] := ⟨.nilFunc, by kernel_rfl, .one rfl⟩
instance : Sc Tryd.prog 235 := ⟨_, Tryd.underlying235, rfl, by kernel_rfl⟩
instance : ZeroT Tryd.prog 235 [.nilFunc] := ⟨.nilFunc, by kernel_rfl, .one rfl⟩
instance : Ag Tryd.prog 236 20 := ⟨_, Tryd.underlying236, rfl, by kernel_rfl⟩
instance : ArrT Tryd.prog 236 20 51 1 := ⟨Tryd.underlying236, by kernel_rfl⟩
instance : OffsT Tryd.prog 236 (arrOffs 20 1) (.int .u64 0 :: .int .u64 0 :: .int .u64 0 :: .int .u64 0 :: .int .u64 0 :: .int .u64 0 :: .int .u64 0 :: .int .u64 0 :: .int .u64 0 :: .int .u64 0 :: .int .u64 0 :: .int .u64 0 :: .int .u64 0 :: .int .u64 0 :: .int .u64 0 :: .int .u64 0 :: .int .u64 0 :: .int .u64 0 :: .int .u64 0 :: .int .u64 0 :: []) := ⟨fun i => some (i * 1, 1), fun _ => by kernel_rfl, arrOffs_at 20 1⟩
instance : ZeroT Tryd.prog 236 (.int .u64 0 :: .int .u64 0 :: .int .u64 0 :: .int .u64 0 :: .int .u64 0 :: .int .u64 0 :: .int .u64 0 :: .int .u64 0 :: .int .u64 0 :: .int .u64 0 :: .int .u64 0 :: .int .u64 0 :: .int .u64 0 :: .int .u64 0 :: .int .u64 0 :: .int .u64 0 :: .int .u64 0 :: .int .u64 0 :: .int .u64 0 :: .int .u64 0 :: []) := ⟨_, show still Tryd.prog (zeroValue 236) = some (.agg (List.toArray (.int .u64 0 :: .int .u64 0 :: .int .u64 0 :: .int .u64 0 :: .int .u64 0 :: .int .u64 0 :: .int .u64 0 :: .int .u64 0 :: .int .u64 0 :: .int .u64 0 :: .int .u64 0 :: .int .u64 0 :: .int .u64 0 :: .int .u64 0 :: .int .u64 0 :: .int .u64 0 :: .int .u64 0 :: .int .u64 0 :: .int .u64 0 :: .int .u64 0 :: []))) by kernel_rfl, .agg _⟩
instance : Ag Tryd.prog 237 65 := ⟨_, Tryd.underlying237, rfl, by kernel_rfl⟩
instance : ArrT Tryd.prog 237 65 5 1 := ⟨Tryd.underlying237, by kernel_rfl⟩
instance : Sc Tryd.prog 238 := ⟨_, Tryd.underlying238, rfl, by kernel_rfl⟩
instance : ZeroT Tryd.prog 238 [.nilFunc] := ⟨.nilFunc, by kernel_rfl, .one rfl⟩
instance : Sc Tryd.prog 239 := ⟨_, Tryd.underlying239, rfl, by kernel_rfl⟩
instance : ZeroT Tryd.prog 239 [.nilFunc] := ⟨.nilFunc, by kernel_rfl, .one rfl⟩
instance : Sc Tryd.prog 240 := ⟨_, Tryd.underlying240, rfl, by kernel_rfl⟩
instance : ZeroT Tryd.prog 240 [.nilFunc] := ⟨.nilFunc, by kernel_rfl, .one rfl⟩
instance : Sc Tryd.prog 241 := ⟨_, Tryd.underlying241, rfl, by kernel_rfl⟩
instance : ZeroT Tryd.prog 241 [.pointer none] := ⟨.pointer none, by kernel_rfl, .one rfl⟩
instance : Ag Tryd.prog 242 1 := ⟨_, Tryd.underlying242, rfl, by kernel_rfl⟩
instance : FieldAt Tryd.prog 242 0 0 := ⟨_, _, 0, Tryd.underlying242, rfl, rfl, by kernel_rfl⟩
instance : OffsT Tryd.prog 242 [(0, 1)] [.string .empty] := ⟨(([(0, 1)] : List (Nat × Nat)).toArray[·]?), fun _ => by kernel_rfl, fun i p h => by simpa using h⟩
instance : ZeroT Tryd.prog 242 [.string .empty] := ⟨_, show still Tryd.prog (zeroValue 242) = some (.agg (List.toArray [.string .empty])) by kernel_rfl, .agg _⟩
instance : Ag Tryd.prog 243 1 := ⟨_, Tryd.underlying243, rfl, by kernel_rfl⟩
instance : FieldAt Tryd.prog 243 0 0 := ⟨_, _, 0, Tryd.underlying243, rfl, rfl, by kernel_rfl⟩
instance : OffsT Tryd.prog 243 [(0, 1)] [.string .empty] := ⟨(([(0, 1)] : List (Nat × Nat)).toArray[·]?), fun _ => by kernel_rfl, fun i p h => by simpa using h⟩
instance : ZeroT Tryd.prog 243 [.string .empty] := ⟨_, show still Tryd.prog (zeroValue 243) = some (.agg (List.toArray [.string .empty])) by kernel_rfl, .agg _⟩
instance : Sc Tryd.prog 244 := ⟨_, Tryd.underlying244, rfl, by kernel_rfl⟩
instance : ZeroT Tryd.prog 244 [.nilFunc] := ⟨.nilFunc, by kernel_rfl, .one rfl⟩
instance : Sc Tryd.prog 245 := ⟨_, Tryd.underlying245, rfl, by kernel_rfl⟩
instance : ZeroT Tryd.prog 245 [.nilFunc] := ⟨.nilFunc, by kernel_rfl, .one rfl⟩
instance : Ag Tryd.prog 246 32 := ⟨_, Tryd.underlying246, rfl, by kernel_rfl⟩
instance : ArrT Tryd.prog 246 32 5 1 := ⟨Tryd.underlying246, by kernel_rfl⟩
instance : OffsT Tryd.prog 246 (arrOffs 32 1) (.int .u8 0 :: .int .u8 0 :: .int .u8 0 :: .int .u8 0 :: .int .u8 0 :: .int .u8 0 :: .int .u8 0 :: .int .u8 0 :: .int .u8 0 :: .int .u8 0 :: .int .u8 0 :: .int .u8 0 :: .int .u8 0 :: .int .u8 0 :: .int .u8 0 :: .int .u8 0 :: .int .u8 0 :: .int .u8 0 :: .int .u8 0 :: .int .u8 0 :: .int .u8 0 :: .int .u8 0 :: .int .u8 0 :: .int .u8 0 :: .int .u8 0 :: .int .u8 0 :: .int .u8 0 :: .int .u8 0 :: .int .u8 0 :: .int .u8 0 :: .int .u8 0 :: .int .u8 0 :: []) := ⟨fun i => some (i * 1, 1), fun _ => by kernel_rfl, arrOffs_at 32 1⟩
instance : ZeroT Tryd.prog 246 (.int .u8 0 :: .int .u8 0 :: .int .u8 0 :: .int .u8 0 :: .int .u8 0 :: .int .u8 0 :: .int .u8 0 :: .int .u8 0 :: .int .u8 0 :: .int .u8 0 :: .int .u8 0 :: .int .u8 0 :: .int .u8 0 :: .int .u8 0 :: .int .u8 0 :: .int .u8 0 :: .int .u8 0 :: .int .u8 0 :: .int .u8 0 :: .int .u8 0 :: .int .u8 0 :: .int .u8 0 :: .int .u8 0 :: .int .u8 0 :: .int .u8 0 :: .int .u8 0 :: .int .u8 0 :: .int .u8 0 :: .int .u8 0 :: .int .u8 0 :: .int .u8 0 :: .int .u8 0 :: []) := ⟨_, show still Tryd.prog (zeroValue 246) = some (.agg (List.toArray (.int .u8 0 :: .int .u8 0 :: .int .u8 0 :: .int .u8 0 :: .int .u8 0 :: .int .u8 0 :: .int .u8 0 :: .int .u8 0 :: .int .u8 0 :: .int .u8 0 :: .int .u8 0 :: .int .u8 0 :: .int .u8 0 :: .int .u8 0 :: .int .u8 0 :: .int .u8 0 :: .int .u8 0 :: .int .u8 0 :: .int .u8 0 :: .int .u8 0 :: .int .u8 0 :: .int .u8 0 :: .int .u8 0 :: .int .u8 0 :: .int .u8 0 :: .int .u8 0 :: .int .u8 0 :: .int .u8 0 :: .int .u8 0 :: .int .u8 0 :: .int .u8 0 :: .int .u8 0 :: []))) by kernel_rfl, .agg _⟩
instance : Ag Tryd.prog 247 64 := ⟨_, Tryd.underlying247, rfl, by kernel_rfl⟩
instance : ArrT Tryd.prog 247 64 5 1 := ⟨Tryd.underlying247, by kernel_rfl⟩
instance : Ag Tryd.prog 248 4 := ⟨_, Tryd.underlying248, rfl, by kernel_rfl⟩
instance : FieldAt Tryd.prog 248 0 0 := ⟨_, _, 0, Tryd.underlying248, rfl, rfl, by kernel_rfl⟩
instance : FieldAt Tryd.prog 248 1 1 := ⟨_, _, 0, Tryd.underlying248, rfl, rfl, by kernel_rfl⟩
instance : FieldAt Tryd.prog 248 2 2 := ⟨_, _, 0, Tryd.underlying248, rfl, rfl, by kernel_rfl⟩
instance : FieldAt Tryd.prog 248 3 3 := ⟨_, _, 0, Tryd.underlying248, rfl, rfl, by kernel_rfl⟩
instance : OffsT Tryd.prog 248 [(0, 1), (1, 1), (2, 1), (3, 1)] [.pointer none, .pointer none, .pointer none, .string .empty] := ⟨(([(0, 1), (1, 1), (2, 1), (3, 1)] : List (Nat × Nat)).toArray[·]?), fun _ => by kernel_rfl, fun i p h => by simpa using h⟩
instance : ZeroT Tryd.prog 248 [.pointer none, .pointer none, .pointer none, .string .empty] := ⟨_, show still Tryd.prog (zeroValue 248) = some (.agg (List.toArray [.pointer none, .pointer none, .pointer none, .string .empty])) by kernel_rfl, .agg _⟩
instance : Ag Tryd.prog 249 4 := ⟨_, Tryd.underlying249, rfl, by kernel_rfl⟩
instance : FieldAt Tryd.prog 249 0 0 := ⟨_, _, 0, Tryd.underlying249, rfl, rfl, by kernel_rfl⟩
instance : FieldAt Tryd.prog 249 1 1 := ⟨_, _, 0, Tryd.underlying249, rfl, rfl, by kernel_rfl⟩
instance : FieldAt Tryd.prog 249 2 2 := ⟨_, _, 0, Tryd.underlying249, rfl, rfl, by kernel_rfl⟩
instance : FieldAt Tryd.prog 249 3 3 := ⟨_, _, 0, Tryd.underlying249, rfl, rfl, by kernel_rfl⟩
instance : OffsT Tryd.prog 249 [(0, 1), (1, 1), (2, 1), (3, 1)] [.pointer none, .pointer none, .pointer none, .string .empty] := ⟨(([(0, 1), (1, 1), (2, 1), (3, 1)] : List (Nat × Nat)).toArray[·]?), fun _ => by kernel_rfl, fun i p h => by simpa using h⟩
instance : ZeroT Tryd.prog 249 [.pointer none, .pointer none, .pointer none, .string .empty] := ⟨_, show still Tryd.prog (zeroValue 249) = some (.agg (List.toArray [.pointer none, .pointer none, .pointer none, .string .empty])) by kernel_rfl, .agg _⟩
instance : Sc Tryd.prog 253 := ⟨_, Tryd.underlying253, rfl, by kernel_rfl⟩
instance : ZeroT Tryd.prog 253 [.int .u8 0] := ⟨.int .u8 0, by kernel_rfl, .one rfl⟩
instance : IntT Tryd.prog 253 .u8 := ⟨Tryd.underlying253⟩
instance : Sc Tryd.prog 254 := ⟨_, Tryd.underlying254, rfl, by kernel_rfl⟩
instance : ZeroT Tryd.prog 254 [.int .u8 0] := ⟨.int .u8 0, by kernel_rfl, .one rfl⟩
instance : IntT Tryd.prog 254 .u8 := ⟨Tryd.underlying254⟩
instance : Sc Tryd.prog 255 := ⟨_, Tryd.underlying255, rfl, by kernel_rfl⟩
instance : ZeroT Tryd.prog 255 [.nilFunc] := ⟨.nilFunc, by kernel_rfl, .one rfl⟩
instance : Sc Tryd.prog 256 := ⟨_, Tryd.underlying256, rfl, by kernel_rfl⟩
instance : ZeroT Tryd.prog 256 [.int .i32 0] := ⟨.int .i32 0, by kernel_rfl, .one rfl⟩
instance : IntT Tryd.prog 256 .i32 := ⟨Tryd.underlying256⟩
instance : Sc Tryd.prog 257 := ⟨_, Tryd.underlying257, rfl, by kernel_rfl⟩
instance : ZeroT Tryd.prog 257 [.int .i32 0] := ⟨.int .i32 0, by kernel_rfl, .one rfl⟩
instance : IntT Tryd.prog 257 .i32 := ⟨Tryd.underlying257⟩
instance : Ag Tryd.prog 258 11 := ⟨_, Tryd.underlying258, rfl, by kernel_rfl⟩
instance : FieldAt Tryd.prog 258 0 0 := ⟨_, _, 0, Tryd.underlying258, rfl, rfl, by kernel_rfl⟩
instance : FieldAt Tryd.prog 258 1 1 := ⟨_, _, 0, Tryd.underlying258, rfl, rfl, by kernel_rfl⟩
instance : FieldAt Tryd.prog 258 2 2 := ⟨_, _, 0, Tryd.underlying258, rfl, rfl, by kernel_rfl⟩
instance : FieldAt Tryd.prog 258 3 3 := ⟨_, _, 0, Tryd.underlying258, rfl, rfl, by kernel_rfl⟩
instance : FieldAt Tryd.prog 258 4 4 := ⟨_, _, 0, Tryd.underlying258, rfl, rfl, by kernel_rfl⟩
instance : FieldAt Tryd.prog 258 5 5 := ⟨_, _, 0, Tryd.underlying258, rfl, rfl, by kernel_rfl⟩
instance : FieldAt Tryd.prog 258 6 6 := ⟨_, _, 0, Tryd.underlying258, rfl, rfl, by kernel_rfl⟩
instance : FieldAt Tryd.prog 258 7 7 := ⟨_, _, 0, Tryd.underlying258, rfl, rfl, by kernel_rfl⟩
instance : FieldAt Tryd.prog 258 8 8 := ⟨_, _, 0, Tryd.underlying258, rfl, rfl, by kernel_rfl⟩
instance : FieldAt Tryd.prog 258 9 9 := ⟨_, _, 0, Tryd.underlying258, rfl, rfl, by kernel_rfl⟩
instance : FieldAt Tryd.prog 258 10 10 := ⟨_, _, 0, Tryd.underlying258, rfl, rfl, by kernel_rfl⟩
instance : OffsT Tryd.prog 258 [(0, 1), (1, 1), (2, 1), (3, 1), (4, 1), (5, 1), (6, 1), (7, 1), (8, 1), (9, 1), (10, 1)] [.int .u64 0, .int .u64 0, .int .u32 0, .int .u8 0, .int .u8 0, .int .u8 0, .int .u8 0, .nilFunc, .pointer none, .int .i32 0, .int .i32 0] := ⟨(([(0, 1), (1, 1), (2, 1), (3, 1), (4, 1), (5, 1), (6, 1), (7, 1), (8, 1), (9, 1), (10, 1)] : List (Nat × Nat)).toArray[·]?), fun _ => by kernel_rfl, fun i p h => by simpa using h⟩
instance : ZeroT Tryd.prog 258 [.int .u64 0, .int .u64 0, .int .u32 0, .int .u8 0, .int .u8 0, .int .u8 0, .int .u8 0, .nilFunc, .pointer none, .int .i32 0, .int .i32 0] := ⟨_, show still Tryd.prog (zeroValue 258) = some (.agg (List.toArray [.int .u64 0, .int .u64 0, .int .u32 0, .int .u8 0, .int .u8 0, .int .u8 0, .int .u8 0, .nilFunc, .pointer none, .int .i32 0, .int .i32 0])) by kernel_rfl, .agg _⟩
instance : Ag Tryd.prog 259 11 := ⟨_, Tryd.underlying259, rfl, by kernel_rfl⟩
instance : FieldAt Tryd.prog 259 0 0 := ⟨_, _, 0, Tryd.underlying259, rfl, rfl, by kernel_rfl⟩
instance : FieldAt Tryd.prog 259 1 1 := ⟨_, _, 0, Tryd.underlying259, rfl, rfl, by kernel_rfl⟩
instance : FieldAt Tryd.prog 259 2 2 := ⟨_, _, 0, Tryd.underlying259, rfl, rfl, by kernel_rfl⟩
instance : FieldAt Tryd.prog 259 3 3 := ⟨_, _, 0, Tryd.underlying259, rfl, rfl, by kernel_rfl⟩
instance : FieldAt Tryd.prog 259 4 4 := ⟨_, _, 0, Tryd.underlying259, rfl, rfl, by kernel_rfl⟩
instance : FieldAt Tryd.prog 259 5 5 := ⟨_, _, 0, Tryd.underlying259, rfl, rfl, by kernel_rfl⟩
instance : FieldAt Tryd.prog 259 6 6 := ⟨_, _, 0, Tryd.underlying259, rfl, rfl, by kernel_rfl⟩
instance : FieldAt Tryd.prog 259 7 7 := ⟨_, _, 0, Tryd.underlying259, rfl, rfl, by kernel_rfl⟩
instance : FieldAt Tryd.prog 259 8 8 := ⟨_, _, 0, Tryd.underlying259, rfl, rfl, by kernel_rfl⟩
instance : FieldAt Tryd.prog 259 9 9 := ⟨_, _, 0, Tryd.underlying259, rfl, rfl, by kernel_rfl⟩
instance : FieldAt Tryd.prog 259 10 10 := ⟨_, _, 0, Tryd.underlying259, rfl, rfl, by kernel_rfl⟩
instance : OffsT Tryd.prog 259 [(0, 1), (1, 1), (2, 1), (3, 1), (4, 1), (5, 1), (6, 1), (7, 1), (8, 1), (9, 1), (10, 1)] [.int .u64 0, .int .u64 0, .int .u32 0, .int .u8 0, .int .u8 0, .int .u8 0, .int .u8 0, .nilFunc, .pointer none, .int .i32 0, .int .i32 0] := ⟨(([(0, 1), (1, 1), (2, 1), (3, 1), (4, 1), (5, 1), (6, 1), (7, 1), (8, 1), (9, 1), (10, 1)] : List (Nat × Nat)).toArray[·]?), fun _ => by kernel_rfl, fun i p h => by simpa using h⟩
instance : ZeroT Tryd.prog 259 [.int .u64 0, .int .u64 0, .int .u32 0, .int .u8 0, .int .u8 0, .int .u8 0, .int .u8 0, .nilFunc, .pointer none, .int .i32 0, .int .i32 0] := ⟨_, show still Tryd.prog (zeroValue 259) = some (.agg (List.toArray [.int .u64 0, .int .u64 0, .int .u32 0, .int .u8 0, .int .u8 0, .int .u8 0, .int .u8 0, .nilFunc, .pointer none, .int .i32 0, .int .i32 0])) by kernel_rfl, .agg _⟩
end Go.Proofs.YtflmckoolagikaaDoor
end
section
namespace Go.Proofs.YtflmckoolagikaaDoor
open Go Go.RowKit Go.Fw Go.Sx
theorem maxLen_cell (W : World) (hS : W.ShapedOpen Tryd.prog) : ∃ m, ∀ H w, Holds ⟨W.heap.size, W⟩ H w → w.cell? ⟨2, 0, none⟩ = some (.int .i64 m) := by
  obtain ⟨m, hm⟩ := cell_of_shapedOpen_int (P := Tryd.prog) (w := W) (g := 2) (t := 3) (zero := #[.int .i64 0]) (k := .i64) hS (by decide +kernel) (by kernel_rfl) rfl (by kernel_rfl) (by kernel_rfl) Tryd.underlying3
  refine ⟨m, fun H w hw => ?_⟩
  have hlt : 2 < W.heap.size := by
    rcases Nat.lt_or_ge 2 W.heap.size with h | h
    · exact h
    · exfalso
      simp [World.cell?, Array.getElem?_eq_none h] at hm
  have e := hw.below.block 2 hlt
  rw [← hm]
  unfold World.cell?
  rw [e]
end Go.Proofs.YtflmckoolagikaaDoor
end
section
namespace Go.Sx
open Go Go.RowKit Go.Fw
theorem run_copy_rows {P : Program} (w : World) (dT sT ty elem : TypeId) (sz g o dLen dCap : Nat) (a : Addr) (sLen sCap : Nat) (cur : Array Value) (t : TypeId) (cs : List Value)
    (hu : P.underlying dT = some (.slice elem)) (hs : (P.info? elem).map (·.size) = some sz)
    (hg : w.heap[g]? = some (.cells cur t (0, 0))) (hn : cs.length = Nat.min sLen dLen * sz)
    (hsrc : ∀ j v, cs[j]? = some v → w.cell? (a.add j) = some v) (hfit : o + cs.length ≤ cur.size) (h1 : ∀ v ∈ cs, v.oneCell' = true) :
    (Builtin.copy_ #[dT, sT] ty #[.slice (some ⟨g, o, none⟩) dLen dCap, .slice (some a) sLen sCap]).run P w =
      .ok (goInt (Nat.min sLen dLen)) (w.setRow g (cur.toList.take o ++ cs ++ cur.toList.drop (o + cs.length)).toArray) := by
  have hl := run_loadCells_list (P := P) w a cs hsrc
  have hst := run_storeCells_at P g o t cs 0 cur w hg (by simpa using hfit) h1
  cases hq : P.info? elem with
  | none => simp [hq] at hs
  | some i =>
    have hi : i.size = sz := by simpa [hq] using hs
    simp [Builtin.copy_, run_underlying hu, Builtin.lenOf, Builtin.firstCells, sizeOf, typeInfo, hq, hi, ← hn, hl, hst]
theorem run_copy_none' {P : Program} (w : World) (dT sT ty elem : TypeId) (sz : Nat) (d a : Option Addr) (dLen dCap sLen sCap : Nat) (hu : P.underlying dT = some (.slice elem)) (hs : (P.info? elem).map (·.size) = some sz) (hn : Nat.min sLen dLen = 0) :
    (Builtin.copy_ #[dT, sT] ty #[.slice d dLen dCap, .slice a sLen sCap]).run P w = .ok (goInt 0) w := by
  cases hq : P.info? elem with
  | none => simp [hq] at hs
  | some i =>
    have hl : ∀ (x : Addr), (loadCells x 0).run P w = .ok #[] w := fun x => by simpa using run_loadCells_list (P := P) w x [] (by simp)
    cases d <;> cases a <;> simp [Builtin.copy_, run_underlying hu, Builtin.lenOf, Builtin.firstCells, sizeOf, typeInfo, hq, hn, storeCells, hl]
section
variable {P : Program} {G : Ctx} {n : Sz} {ops : Array Oper} {Q : Post} {s : Fm} {H : List Ent} {o : Oper} {rest : List Oper}
/-- copy of elements of several cells, into a row that is held. -/
theorem c_copyA {x y : Operand} {dT sT e sz bytes dl dc sl sc len c b off m d : Nat} {a2 : Option Addr} {xs ys : List Value} {H' : List Ent} (hg : o.guard = none) (ho : o.op = .call { callee := .builtin .copy, args := #[x, y], argTypes := #[dT, sT] }) [hT : SliceT P dT e sz bytes] (hx : ev s x = some (.slice (some ⟨b, off, none⟩) dl dc)) (hy : ev s y = some (.slice a2 sl sc)) [hp : PickOwn H (some ⟨b, 0, none⟩) e sz len c xs H'] [hr : RdC G H a2 ys]
    (hm : m = min sl dl) (hys : m * sz ≤ ys.length) (hfit : off + m * sz ≤ len * sz) (h1 : (ys.take (m * sz)).all (·.oneCell') = true) (h1d : o.dst = some d) (h2d : Nat.blt d n.n = true)
    (hk : SL P G n ops Q rest ((d, .int .i64 m) :: s) (.own e sz (some ⟨b, 0, none⟩) len c (over xs off (ys.take (m * sz))) :: H')) : SL P G n ops Q (o :: rest) s H := by
  have hd := okd (n := n) h1d h2d
  simp only [← updd h1d] at hk
  refine sl_op (.inl hg) fun act w ha hw K hK => ?_
  have hr' := hr.here w hw
  have hw := hw.pick hp.here
  have hown : w.ownsRow G.B e sz (.slice (some ⟨b, 0, none⟩) len c) len xs := hw.ok _ List.mem_cons_self
  have hsz := hT.size
  have hu := hT.here.1
  have hsz0 := hT.here.2.1
  unfold Oper.wp execOp
  simp only [ho, resolve, invoke, builtin, Sem.run_bind, Sem.run_pure, Result.andThen_ok, List.map_toArray, List.map_cons, List.map_nil, ha.ev hx, ha.ev hy]
  rcases Nat.eq_zero_or_pos m with h0 | h0
  · have hrun := run_copy_none' (P := P) w dT sT o.type e sz (some ⟨b, off, none⟩) a2 dl dc sl sc hu hsz (by rw [← h0]; exact hm.symm)
    simp only [hrun, Result.andThen_ok]
    subst h0
    have e1 : over xs off (ys.take (0 * sz)) = xs := by simp [over]
    rw [e1] at hk
    exact hK _ _ (hk _ _ (ha.put _ _ hd) hw)
  · have hpos : 0 < m * sz := Nat.mul_pos h0 hsz0
    obtain ⟨hlen, ⟨hv, hz⟩ | ⟨g, cap, cur, hv, hB, hh, hn, hmx, hs, ht⟩⟩ := hown
    · subst hz
      rw [Nat.zero_mul] at hfit
      omega
    · obtain ⟨rfl, rfl⟩ : b = g ∧ c = cap := by
        simp only [Value.slice.injEq, Option.some.injEq, Addr.mk.injEq, and_true, true_and] at hv
        exact hv
      obtain ⟨b2, off2, rfl, hc2⟩ := At.someAt hr' (by omega)
      have hcl : (ys.take (m * sz)).length = m * sz := by rw [List.length_take]; omega
      have hcur2 : xs.length ≤ cur.toList.length := by rw [← ht, List.length_take]; exact Nat.min_le_right _ _
      have hmm : Nat.min sl dl = m := hm.symm
      have hrun := run_copy_rows (P := P) w dT sT o.type e sz b off dl dc ⟨b2, off2, none⟩ sl sc cur e (ys.take (m * sz)) hu hsz hh (by rw [hcl, hmm]) (fun j v hj => by
        have hj' : j < m * sz := by
          have := (List.getElem?_eq_some_iff.1 hj).1
          rw [hcl] at this
          exact this
        rw [Addr.add_mid, hc2 j (by omega)]
        rw [List.getElem?_take_of_lt hj'] at hj
        exact hj) (by rw [hcl, ← Array.length_toList]; omega) (fun v hv => List.all_eq_true.1 h1 v hv)
      rw [hmm] at hrun
      simp only [hrun, Result.andThen_ok]
      have hov : (cur.toList.take off ++ ys.take (m * sz) ++ cur.toList.drop (off + (ys.take (m * sz)).length)) = over cur.toList off (ys.take (m * sz)) := rfl
      rw [hov]
      have hl : off + (ys.take (m * sz)).length ≤ xs.length := by rw [hcl, hlen]; exact hfit
      have hcl2 : off + (ys.take (m * sz)).length ≤ cur.toList.length := by omega
      have e2 : (over cur.toList off (ys.take (m * sz))).take (len * sz) = over xs off (ys.take (m * sz)) := by
        have h4 : off + (ys.take (m * sz)).length ≤ len * sz := by rw [← hlen]; exact hl
        unfold over
        rw [← ht, List.take_take, Nat.min_eq_left (by omega), List.drop_take]
        have h3 : (cur.toList.take off).length = off := by rw [List.length_take]; omega
        rw [List.take_append, List.take_of_length_le (by rw [List.length_append, h3]; omega)]
        congr 2
        rw [List.length_append, h3]
      have hw' : Holds G (.own e sz (some ⟨b, 0, none⟩) len c (over xs off (ys.take (m * sz))) :: H') (w.setRow b (over cur.toList off (ys.take (m * sz))).toArray) := by
        obtain ⟨hap, hapH⟩ := List.pairwise_cons.1 hw.apart
        refine ⟨below_setRow hw.below hB _, by simpa using hw.base, fun z hz => ?_, List.pairwise_cons.2 ⟨fun y hy k hk => hap y hy k hk, hapH⟩⟩
        rcases List.mem_cons.1 hz with rfl | hz
        · refine ⟨?_, .inr ⟨b, c, (over cur.toList off (ys.take (m * sz))).toArray, rfl, hB, setRow_heap w b _ _ e (0, 0) hh, hn, hmx, ?_, by rw [List.toList_toArray]; exact e2⟩⟩
          · rw [over_len hl]; exact hlen
          · rw [List.size_toArray, over_len hcl2, Array.length_toList]; exact hs
        · exact Ent.ok_of (hw.ok z (List.mem_cons_of_mem _ hz)) fun j hj => setRow_other w b j _ (fun e => hap z hz b rfl (e ▸ hj))
      exact hK _ _ (hk _ _ (ha.put _ _ hd) hw')
end
end Go.Sx
namespace Go.Sx
open Go Go.RowKit Go.Fw
section
variable {P : Program} {G : Ctx} {n : Sz} {ops : Array Oper} {Q : Post} {s : Fm} {H : List Ent} {o : Oper} {rest : List Oper}
end
end Go.Sx
namespace Go.Sx
open Go Go.RowKit Go.Fw
class PickObj (H : List Ent) (g : Nat) (o : outParam Obj) (H' : outParam (List Ent)) : Prop where
  here : Pick (.obj g o) H H'
instance (priority := low) pickObjTail {H H' : List Ent} {g : Nat} {o : Obj} {x : Ent} [h : PickObj H g o H'] : PickObj (x :: H) g o (x :: H') := ⟨.there h.here⟩
instance pickObjHead {H : List Ent} {g : Nat} {o : Obj} : PickObj (.obj g o :: H) g o H := ⟨.here _⟩
section
variable {P : Program} {G : Ctx} {n : Sz} {ops : Array Oper} {Q : Post} {s : Fm} {H : List Ent} {o : Oper} {rest : List Oper}
/-- A byte of a text, by its value. -/
theorem c_indexNumV {t : Nat} {x y : Operand} {k : IntKind} {i v : Int} {b : ByteArray} (hv : (nums b).getD i.toNat 0 = v) (ho : o.op = .index t x y) [h : StrT P t] (hx : ev s x = some (.string b)) (hy : ev s y = some (.int k i)) (h0 : 0 ≤ i) (hi : i < b.size) : Yields P G n s H o (.int .u8 v) := hv ▸ c_indexNum ho hx hy h0 hi
end
end Go.Sx
namespace Go.Sx
open Go Go.RowKit Go.Fw
section
variable {P : Program} {G : Ctx} {n : Sz} {ops : Array Oper} {Q : Post} {s : Fm} {H : List Ent} {o : Oper} {rest : List Oper}
end
theorem bb_shl1V {P : Program} {K : Value → Prop} {x y : Operand} {t : TypeId} {k' : IntKind} {q D : Int} (hD : pw q.toNat = D) (h0 : 0 ≤ q) (h1 : q ≤ 63) (hk : K (.int .u64 D)) : BB P .shl t x y (.int .u64 1) (.int k' q) K := bb_shl1 h0 h1 (hD ▸ hk)
theorem bb_bitsV {P : Program} {K : Value → Prop} {x y : Operand} {t : TypeId} {op : BinOp} {k : IntKind} {p q D : Int} (hop : (match op with | .and | .or | .xor | .andNot => true | _ => false) = true) (hD : ibits op k p q = D) (hk : K (.int k D)) : BB P op t x y (.int k p) (.int k q) K := bb_bits hop (hD ▸ hk)
theorem c_storekV {P : Program} {G : Ctx} {n : Sz} {ops : Array Oper} {Q : Post} {s : Fm} {H : List Ent} {o : Oper} {rest : List Oper} {t t' : TypeId} {x y : Operand} {b off : Nat} {cs cs' : List Value} {v : Value} {H' : List Ent} (hg : o.guard = none) (ho : o.op = .store t x y) [h : Sc P t] (hx : ev s x = some (.pointer (some ⟨b, off, none⟩))) (hy : ev s y = some v) [hp : PickBlk H b t' cs H'] (h1 : v.oneCell' = true) (hs : cs.set off v = cs')
    (hl : off < cs.length) (hd : o.dst = none) (hk : SL P G n ops Q rest s (.blk b t' cs' :: H')) : SL P G n ops Q (o :: rest) s H := c_storek hg ho hx hy h1 hl hd (hs ▸ hk)
theorem bb_catV {P : Program} {K : Value → Prop} {x y : Operand} {t : TypeId} {a b r : ByteArray} (hr : a ++ b = r) (h : a.size + b.size ≤ 9223372036854775807) (hk : K (.string r)) : BB P .add t x y (.string a) (.string b) K := bb_cat h (hr ▸ hk)
end Go.Sx
namespace Go.Sx
open Go Go.RowKit Go.Fw
end Go.Sx
namespace Go.Sx
open Go Go.RowKit Go.Fw
end Go.Sx
namespace Go.Sx
open Go Go.RowKit Go.Fw
section
variable {P : Program} {ops : Array Oper} {Q : Exit → Act → World → Prop} {md : Region.Mode}
variable {S : Array Bool → World → Prop}
end
section
variable {P : Program} {G : Ctx} {n : Sz} {ops : Array Oper} {Q : Post} {s : Fm} {H H1 Hs : List Ent} {o : Oper} {fuel st : Nat} {done : List Nat}
end
end Go.Sx
namespace Go.Sx
open Go Go.RowKit Go.Fw
def rowObj (e : TypeId) (cs : List Value) : Obj := .cells cs.toArray e (cs.length, cs.length + 1)
theorem bytesObj_row (e : TypeId) (xs : List Int) (m : Nat) : bytesObj e xs m = rowObj e (octs xs ++ List.replicate m (Value.int .u8 0)) := by
  unfold bytesObj rowObj
  simp [octs]
/-- A row of bytes: what is held, where it lies, how long it is. -/
inductive BufE (e : TypeId) : Ent → Option Addr → Nat → Nat → List Int → Prop where
  | own (a : Option Addr) (n c : Nat) (xs : List Int) : BufE e (.own e 1 a n c (octs xs)) a n c xs
  | obj (g n c : Nat) (xs : List Int) (tl : List Value) (hn : n = xs.length) (hc : c = n + tl.length) (hm : c ≤ maxLen) : BufE e (.obj g (rowObj e (octs xs ++ tl))) (some ⟨g, 0, none⟩) n c xs
class PickE (H : List Ent) (X : Ent) (H' : outParam (List Ent)) : Prop where
  here : Pick X H H'
instance (priority := low) pickETail {H H' : List Ent} {X x : Ent} [h : PickE H X H'] : PickE (x :: H) X (x :: H') := ⟨.there h.here⟩
instance pickEHead {H : List Ent} {X : Ent} : PickE (X :: H) X H := ⟨.here _⟩
section
variable {P : Program} {G : Ctx} {n : Sz} {ops : Array Oper} {Q : Post} {s : Fm} {H : List Ent} {o : Oper} {rest : List Oper}
theorem BufE.len {e : TypeId} {X : Ent} {a : Option Addr} {m c : Nat} {xs : List Int} (h : BufE e X a m c xs) {w : World} (hw : Holds G (X :: H) w) : m = xs.length := by
  cases h with
  | own =>
    have := (hw.ok _ List.mem_cons_self : w.ownsRow G.B e 1 (.slice a m c) m (octs xs)).1
    simp [octs] at this
    exact this.symm
  | obj g n c xs tl hn hc hm => exact hn
/-- A text made to a row of bytes. -/
theorem BufE.conv {e : TypeId} {g c : Nat} (b : ByteArray) (hc : b.size ≤ c) (hm : c ≤ maxLen) : BufE e (.obj g (bytesObj e (nums b) (c - b.size))) (some ⟨g, 0, none⟩) b.size c (nums b) := by
  rw [bytesObj_row]
  exact .obj g b.size c (nums b) _ (nums_length b).symm (by rw [List.length_replicate]; omega) hm
end
end Go.Sx
end
section
namespace Go.Sx
open Go Go.RowKit Go.Fw
/-- A thing that is no cells is changed. -/
theorem Holds.setObj {G : Ctx} {H : List Ent} {w : World} {b : Nat} {o : Obj} (h : Holds G (.obj b o :: H) w) (o' : Obj) : Holds G (.obj b o' :: H) { w with heap := w.heap.setIfInBounds b o' } := by
  obtain ⟨hB, hb⟩ : G.B ≤ b ∧ w.heap[b]? = some o := h.ok _ List.mem_cons_self
  obtain ⟨hap, hapH⟩ := List.pairwise_cons.1 h.apart
  have hlt : b < w.heap.size := row_lt hb
  have ho : ∀ k, k ≠ b → (w.heap.setIfInBounds b o')[k]? = w.heap[k]? := fun k hk => by
    rw [Array.getElem?_setIfInBounds, if_neg (fun e => hk e.symm)]
  have hn : (w.heap.setIfInBounds b o')[b]? = some o' := by
    rw [Array.getElem?_setIfInBounds, if_pos rfl, if_pos hlt]
  refine ⟨h.below.trans ⟨rfl, rfl, rfl, Nat.le_of_eq (by simp), fun k hk => ho k (by omega)⟩, by simpa using h.base, fun x hx => ?_, List.pairwise_cons.2 ⟨fun y hy k hk => hap y hy k hk, hapH⟩⟩
  rcases List.mem_cons.1 hx with rfl | hx
  · exact ⟨hB, hn⟩
  · exact Ent.ok_of (h.ok x (List.mem_cons_of_mem _ hx)) fun k hk => ho k (fun e => hap x hx b rfl (e ▸ hk))
section
variable {P : Program} {G : Ctx} {n : Sz} {ops : Array Oper} {Q : Post} {s : Fm} {H : List Ent} {o : Oper} {rest : List Oper}
end
end Go.Sx
end
section
namespace Go.Sx
open Go Go.RowKit Go.Fw
def flatB : TypeDesc → Bool
  | .int _ | .string | .bool => true
  | _ => false
/-- A map's type: its keys are flat. -/
class MapT (P : Program) (t : TypeId) (k e : outParam TypeId) (kd : outParam TypeDesc) : Prop where
  here : P.underlying t = some (.map k e)
  key : P.underlying k = some kd
  flat : flatB kd = true
section
variable {P : Program}
theorem run_checkKey_flat {k : TypeId} {kd : TypeDesc} (hk : P.underlying k = some kd) (hf : flatB kd = true) (em : Bool) (m : Nat) (v : Value) (w : World) : (Instr.checkKey em (m + 1) k v).run P w = .ok () w := by
  unfold Instr.checkKey
  simp only [Sem.run_bind, run_underlying hk, Result.andThen_ok]
  cases kd <;> first | (simp [flatB] at hf; done) | rfl
theorem run_update_new {t k e : TypeId} {kd : TypeDesc} {w : World} {r clock : Nat} {es : Array MapEntry} {key v : Value} (h : MapT P t k e kd) (hb : w.heap[r]? = some (.map es clock)) (hn : Instr.findNow kd key es.toList 0 = some none) :
    (Instr.mapUpdate t (.map (some r)) key v).run P w = .ok () { w with heap := w.heap.setIfInBounds r (.map (es.push ⟨key, v, clock⟩) (clock + 1)) } := by
  simp [Instr.mapUpdate, run_underlying h.here, run_underlying h.key, MapKept.run_getObj_map hb, run_checkKey_flat h.key h.flat, Instr.findKey, hn, Result.andThen, setObj, Sem.run, hb]
end
section
variable {P : Program} {G : Ctx} {n : Sz} {ops : Array Oper} {Q : Post} {s : Fm} {H : List Ent} {o : Oper} {rest : List Oper}
theorem c_makeMap {t d : Nat} (hg : o.guard = none) (ho : o.op = .makeMap t none) (h1 : o.dst = some d) (h2 : Nat.blt d n.n = true)
    (hk : ∀ r, SL P G n ops Q rest ((d, .map (some r)) :: s) (.obj r (.map #[] 0) :: H)) : SL P G n ops Q (o :: rest) s H := by
  have hd := okd (n := n) h1 h2
  simp only [← updd h1] at hk
  refine sl_op (.inl hg) fun act w ha hw K hK => ?_
  have hrun : (Instr.makeMap t none).run P w = .ok (.map (some w.heap.size)) (w.alloc (.map #[] 0)) := by
    simp [Instr.makeMap, newObj, Sem.run_bind, Sem.run, Result.andThen, World.alloc, -World.alloc_eq]
  unfold Oper.wp execOp
  simp only [ho, Option.map_none, Sem.run_bind, hrun, Result.andThen_ok]
  refine hK _ _ (hk _ _ _ (ha.put _ _ hd) (hw.obj (o := .map #[] 0) (by simp [World.alloc, -World.alloc_eq]) (by simp [World.alloc, -World.alloc_eq]) (fun k hk => ?_) rfl rfl rfl))
  exact heap_alloc_old w _ hk
class HasObj (H : List Ent) (b : Nat) (o : outParam Obj) : Prop where
  here : Ent.obj b o ∈ H
instance (priority := low) hasObjTail {H : List Ent} {b : Nat} {o : Obj} {x : Ent} [h : HasObj H b o] : HasObj (x :: H) b o := ⟨List.mem_cons_of_mem _ h.here⟩
instance hasObjHead {H : List Ent} {b : Nat} {o : Obj} : HasObj (.obj b o :: H) b o := ⟨List.mem_cons_self⟩
theorem c_rangeMap {t k e d bm clock : Nat} {kd : TypeDesc} {x : Operand} {es : Array MapEntry} (hg : o.guard = none) (ho : o.op = .range t x) [h : MapT P t k e kd] (hx : ev s x = some (.map (some bm))) [hp : HasObj H bm (.map es clock)] (h1 : o.dst = some d) (h2 : Nat.blt d n.n = true)
    (hk : ∀ r, SL P G n ops Q rest ((d, .pointer (some ⟨r, 0, none⟩)) :: s) (.obj r (.mapIter (some bm) clock #[] clock) :: H)) : SL P G n ops Q (o :: rest) s H := by
  have hd := okd (n := n) h1 h2
  simp only [← updd h1] at hk
  refine sl_op (.inl hg) fun act w ha hw K hK => ?_
  have hb : w.heap[bm]? = some (.map es clock) := (hw.ok _ hp.here).2
  have hrun := run_range_map (P := P) w t k e bm es clock h.here hb
  unfold Oper.wp execOp
  simp only [ho, ha.ev hx, Sem.run_bind, hrun, Result.andThen_ok]
  refine hK _ _ (hk _ _ _ (ha.put _ _ hd) (hw.obj (o := .mapIter (some bm) clock #[] clock) (by simp [World.alloc, -World.alloc_eq]) (by simp [World.alloc, -World.alloc_eq]) (fun k hk => ?_) rfl rfl rfl))
  exact heap_alloc_old w _ hk
theorem c_nextMap {d r bm since c0 clock : Nat} {seen : Array Nat} {es : Array MapEntry} {x : Operand} {H' : List Ent} (hg : o.guard = none) (ho : o.op = .next x false) (hx : ev s x = some (.pointer (some ⟨r, 0, none⟩))) [hp : PickObj H r (.mapIter (some bm) since seen c0) H'] [hb : HasObj H' bm (.map es clock)] (h1 : o.dst = some d) (h2 : Nat.blt d n.n = true)
    (hold : ∀ y ∈ es.toList, y.born < since) (hsc : since ≤ c0)
    (hy : ∀ y ∈ (leftOf es seen).toList, SL P G n ops Q rest ((d, .tuple #[.bool true, y.key, y.val]) :: s) (.obj r (.mapIter (some bm) since (seen.push y.born) clock) :: H'))
    (hn : (leftOf es seen).size = 0 → SL P G n ops Q rest ((d, .tuple #[.bool false]) :: s) (.obj r (.mapIter (some bm) since seen c0) :: H')) : SL P G n ops Q (o :: rest) s H := by
  have hd := okd (n := n) h1 h2
  simp only [← updd h1] at hy hn
  refine sl_op (.inl hg) fun act w ha hw K hK => ?_
  have hw1 := hw.pick hp.here
  have hr : w.heap[r]? = some (.mapIter (some bm) since seen c0) := (hw1.ok _ List.mem_cons_self).2
  have hbm : w.heap[bm]? = some (.map es clock) := (hw1.ok _ (List.mem_cons_of_mem _ hb.here)).2
  unfold Oper.wp execOp
  simp only [ho, ha.ev hx]
  rcases run_next_at (P := P) w o.type r bm since c0 seen es clock hr hbm hold hsc with ⟨h0, hrun⟩ | ⟨y, hym, w1, hw1', hrun⟩
  · simp only [Sem.run_bind, hrun, Result.andThen_ok]
    exact hK _ _ (hn h0 _ _ (ha.put _ _ hd) hw1)
  · simp only [Sem.run_bind, hrun, Result.andThen_ok]
    refine hK _ _ (hy y hym _ _ (ha.put _ _ hd) ?_)
    rcases hw1' with rfl | rfl
    · exact hw1.setObj _
    · exact hw1.drew.setObj _
end
end Go.Sx
end
section
namespace Go.Sx
open Go Go.RowKit Go.Fw
/-- How long a list is. -/
class Len (N : List Value) (m : outParam Nat) : Prop where
  here : N.length = m
def big (a N c : List Value) : List Value := a ++ (N ++ c)
section
variable {a N c : List Value}
theorem big_len {m k : Nat} [h : Len N m] (hk : Nat.beq (a.length + (m + c.length)) k = true) : (big a N c).length = k := by
  have := h.here; have := Nat.eq_of_beq_eq_true hk; simp [big]; omega
theorem big_pre {off : Nat} {v : Value} (h : a[off]? = some v) : (big a N c)[off]? = some v := by
  unfold big; rw [List.getElem?_append_left (List.getElem?_eq_some_iff.1 h).1]; exact h
theorem big_mid {off : Nat} {v : Value} (h2 : a.length ≤ off) (h : N[off - a.length]? = some v) : (big a N c)[off]? = some v := by
  unfold big
  rw [List.getElem?_append_right h2, List.getElem?_append_left (List.getElem?_eq_some_iff.1 h).1]; exact h
theorem big_post {off m : Nat} {v : Value} [hN : Len N m] (h2 : Nat.ble (a.length + m) off = true) (h : c[off - (a.length + m)]? = some v) : (big a N c)[off]? = some v := by
  have h2 := Nat.le_of_ble_eq_true h2
  have hN := hN.here
  unfold big
  rw [List.getElem?_append_right (by omega), List.getElem?_append_right (by omega), hN, Nat.sub_sub]; exact h
theorem takeq_some : ∀ {l : List Value} {n : Nat} {r : List Value}, take? l n = some r → r.length = n ∧ l.take n = r
  | l, 0, r, h => by simp only [take?, Option.some.injEq] at h; subst h; simp
  | [], n + 1, r, h => by simp [take?] at h
  | x :: l, n + 1, r, h => by
    unfold take? at h
    split at h
    · cases h
    · rename_i l1 h1
      simp only [Option.some.injEq] at h
      subst h
      obtain ⟨e1, e2⟩ := takeq_some h1
      simp [e1, e2]
theorem takeq_of : ∀ {l : List Value} {n : Nat} {r : List Value}, r.length = n → l.take n = r → take? l n = some r
  | l, 0, r, h, h2 => by have := List.eq_nil_of_length_eq_zero h; subst this; unfold take?; rfl
  | [], n + 1, r, h, h2 => by simp at h2; subst h2; simp at h
  | x :: l, n + 1, r, h, h2 => by
    rw [List.take_succ_cons] at h2
    subst h2
    unfold take?
    rw [takeq_of (r := l.take n) (by simpa using h) rfl]
theorem big_ppre {off sz : Nat} {r : List Value} (h : take? (a.drop off) sz = some r) : take? ((big a N c).drop off) sz = some r := by
  obtain ⟨e1, e2⟩ := takeq_some h
  by_cases h0 : sz = 0
  · subst h0; simp at e2; subst e2; unfold take?; rfl
  have h1 : off + sz ≤ a.length := by
    have : ((a.drop off).take sz).length = sz := by rw [e2, e1]
    simp at this; omega
  refine takeq_of e1 ?_
  unfold big
  rw [List.drop_append_of_le_length (by omega), List.take_append_of_le_length (by simp; omega)]; exact e2
theorem big_pmid {off m : Nat} [hN : Len N m] (h : a.length = off) : take? ((big a N c).drop off) m = some N := by
  refine takeq_of hN.here ?_
  unfold big
  rw [← h, List.drop_left, ← hN.here, List.take_left]
theorem big_ppost {off m sz : Nat} {r : List Value} [hN : Len N m] (h2 : Nat.ble (a.length + m) off = true) (h : take? (c.drop (off - (a.length + m))) sz = some r) : take? ((big a N c).drop off) sz = some r := by
  have h2 := Nat.le_of_ble_eq_true h2
  have hN := hN.here
  rw [show (big a N c).drop off = c.drop (off - (a.length + m)) from ?_]
  · exact h
  unfold big
  rw [List.drop_append, List.drop_eq_nil_of_le (by omega), List.nil_append, List.drop_append, List.drop_eq_nil_of_le (by omega), List.nil_append, hN, Nat.sub_sub]
theorem set_mid {off : Nat} {v : Value} (h1 : a.length ≤ off) (h2 : off - a.length < N.length) : (big a N c).set off v = big a (N.set (off - a.length) v) c := by
  unfold big
  rw [List.set_append_right _ _ h1, List.set_append_left _ _ h2]
theorem putL_o : ∀ (vs l : List Value) (k : Nat), k + vs.length ≤ l.length → putL? l k vs = some (l.take k ++ (vs ++ l.drop (k + vs.length)))
  | [], l, k, h => by unfold putL?; simp
  | v :: vs, l, k, h => by
    rw [List.length_cons] at h
    have hk : k < l.length := by omega
    have hs : set? l k v = some (l.set k v) := by
      have key : ∀ (l : List Value) (k : Nat), k < l.length → set? l k v = some (l.set k v) := by
        intro l
        induction l with
        | nil => intro k h; simp at h
        | cons x l ih =>
          intro k h
          cases k with
          | zero => rfl
          | succ k => unfold set?; rw [ih k (by simpa using h)]; rfl
      exact key l k hk
    unfold putL?
    rw [hs]
    dsimp only
    rw [putL_o vs (l.set k v) (k + 1) (by rw [List.length_set]; omega)]
    congr 1
    have e1 : (l.set k v).take (k + 1) = l.take k ++ [v] := by
      rw [List.take_set, List.take_succ_eq_append_getElem hk, List.set_append_right _ _ (by rw [List.length_take]; omega), List.length_take, show k - min k l.length = 0 from by omega]
      rfl
    have e2 : (l.set k v).drop (k + 1 + vs.length) = l.drop (k + (v :: vs).length) := by
      rw [List.drop_set_of_lt (by omega), List.length_cons]
      congr 1
      omega
    rw [e1, e2, List.append_assoc]
    rfl
theorem fill_c {offs : List (Nat × Nat)} {l cs : List Value} {i off sz : Nat} {r : List (Nat × List Value)} (h1 : offs[i]? = some (off, sz)) (h2 : cs.length = sz) (h3 : 0 < sz) (h4 : off + sz ≤ l.length) : fillL? offs l ((i, cs) :: r) = fillL? offs (l.take off ++ (cs ++ l.drop (off + sz))) r := by
  conv => lhs; unfold fillL?
  rw [h1]
  dsimp only
  rw [show Nat.beq cs.length sz = true from by rw [h2]; exact Nat.beq_refl _, show Nat.blt 0 sz = true from by rw [Nat.blt_eq]; exact h3]
  subst h2
  rw [putL_o cs l off h4]
  rfl
theorem over_putL {l l' vs : List Value} {off : Nat} (h : putL? l off vs = some l') (h0 : vs ≠ []) : over l off vs = l' ∧ off + vs.length ≤ l.length := by
  obtain ⟨e1, e2, -⟩ := putL?_fold vs l l' off 0 h
  have h0' : vs.length ≠ 0 := fun e => h0 (List.eq_nil_of_length_eq_zero e)
  have e2 : off + vs.length ≤ l.length := by omega
  refine ⟨?_, e2⟩
  have := putL_o vs l off e2
  rw [h] at this
  rw [Option.some.inj this]
  simp [over]
theorem over_mid {vs : List Value} {m off : Nat} [hN : Len N m] (ho : a.length = off) (h : vs.length = m) : over (big a N c) off vs = big a vs c := by
  subst ho
  unfold over big
  rw [List.take_left, ← List.drop_drop, List.drop_left, h, ← hN.here, List.drop_left, List.append_assoc]
theorem over_sub {off : Nat} {vs : List Value} (h1 : a.length ≤ off) (h2 : off - a.length + vs.length ≤ N.length) : over (big a N c) off vs = big a (over N (off - a.length) vs) c := by
  unfold over big
  rw [List.take_append, List.take_of_length_le h1, List.take_append_of_le_length (by omega), List.drop_append, show a.drop (off + vs.length) = [] from List.drop_eq_nil_of_le (by omega), List.nil_append, List.drop_append_of_le_length (by omega)]
  simp only [List.append_assoc]
  congr 5
  omega
end
section
variable {P : Program} {G : Ctx} {n : Sz} {ops : Array Oper} {Q : Post} {s : Fm} {H : List Ent} {o : Oper} {rest : List Oper}
/-- Several cells, into a part of a block, by what it becomes. -/
theorem c_storepV {t t' sz : Nat} {x y : Operand} {b off : Nat} {cs cs' vs : List Value} {H' : List Ent} (hg : o.guard = none) (ho : o.op = .store t x y) [h : Ag P t sz] (hx : ev s x = some (.pointer (some ⟨b, off, none⟩))) (hy : ev s y = some (.agg vs.toArray)) [hp : PickBlk H b t' cs H'] (h1 : vs.all (·.oneCell') = true)
    (hv : vs.length = sz) (hl : off + sz ≤ cs.length) (hs : over cs off vs = cs') (hd : o.dst = none) (hk : SL P G n ops Q rest s (.blk b t' cs' :: H')) : SL P G n ops Q (o :: rest) s H := by
  subst hs
  exact c_storep hg ho hx hy h1 hv hl hd hk
/-- The same, told by a function that spells its answer out. -/
theorem c_storepL {t t' sz : Nat} {x y : Operand} {b off : Nat} {cs cs' vs : List Value} {H' : List Ent} (hg : o.guard = none) (ho : o.op = .store t x y) [h : Ag P t sz] (hx : ev s x = some (.pointer (some ⟨b, off, none⟩))) (hy : ev s y = some (.agg vs.toArray)) [hp : PickBlk H b t' cs H'] (h1 : vs.all (·.oneCell') = true)
    (hv : vs.length = sz) (hz : Nat.blt 0 sz = true) (hs : putL? cs off vs = some cs') (hd : o.dst = none) (hk : SL P G n ops Q rest s (.blk b t' cs' :: H')) : SL P G n ops Q (o :: rest) s H := by
  have h0 : vs ≠ [] := fun e => by subst e; subst hv; simp at hz
  obtain ⟨e1, e2⟩ := over_putL hs h0
  exact c_storepV hg ho hx hy h1 hv (by omega) e1 hd hk
theorem bb_addV {t : TypeId} {x y : Operand} {K : Value → Prop} {k : IntKind} {p q r : Int} (h : p + q = r) (hf : Fits k r) (hk : K (.int k r)) : BB P .add t x y (.int k p) (.int k q) K := by
  subst h; exact bb_add hf hk
/-- A whole block written, its size told as a fact. -/
theorem c_storewV {t t' sz : Nat} {x y : Operand} {b : Nat} {cs cs' : List Value} {H' : List Ent} (hg : o.guard = none) (ho : o.op = .store t x y) [h : Ag P t sz] (hx : ev s x = some (.pointer (some ⟨b, 0, none⟩))) (hy : ev s y = some (.agg cs'.toArray)) [hp : PickBlk H b t' cs H'] (h1 : cs'.all (·.oneCell') = true)
    (hl' : cs'.length = sz) (hl2' : cs.length = sz) (hd : o.dst = none) (hk : SL P G n ops Q rest s (.blk b t' cs' :: H')) : SL P G n ops Q (o :: rest) s H := by
  obtain ⟨d, -, -, h3⟩ := h.here
  exact sl_store_whole hg ho hx hy hp.here h1 (by rw [h3, hl']) (by rw [hl', hl2']) hd hk
/-- An entry put into a map that is being made. -/
theorem c_insert {t k e r clock : Nat} {kd : TypeDesc} {m x y : Operand} {es : Array MapEntry} {key v : Value} {H' : List Ent} (hg : o.guard = none) (ho : o.op = .insert t m x y) [h : MapT P t k e kd] (hm : ev s m = some (.map (some r))) (hx : ev s x = some key) (hy : ev s y = some v) [hp : PickObj H r (.map es clock) H']
    (hn : Instr.findNow kd key es.toList 0 = some none) (hd : o.dst = none) (hk : SL P G n ops Q rest s (.obj r (.map (es.push ⟨key, v, clock⟩) (clock + 1)) :: H')) : SL P G n ops Q (o :: rest) s H := by
  refine sl_op (.inl hg) fun act w ha hw K hK => ?_
  have hw1 := hw.pick hp.here
  have hb : w.heap[r]? = some (.map es clock) := (hw1.ok _ List.mem_cons_self).2
  have hrun := run_update_new h hb (v := v) hn
  unfold Oper.wp execOp
  simp only [ho, ha.ev hm, ha.ev hx, ha.ev hy, Sem.run_bind, hrun, Result.andThen_ok]
  exact hK _ _ (hk _ _ (by rw [hd]; exact ha) (hw1.setObj _))
/-- The round's key and value. -/
theorem y_entry {x : Operand} {r bm since clock : Nat} {seen : Array Nat} {es : Array MapEntry} {y : MapEntry} (ho : o.op = .entry x) (hx : ev s x = some (.pointer (some ⟨r, 0, none⟩))) [h1 : HasObj H r (.mapIter (some bm) since (seen.push y.born) clock)] [h2 : HasObj H bm (.map es clock)] (he : y ∈ es.toList) (hn : (es.toList.map (·.born)).Nodup) : Yields P G n s H o (.tuple #[y.key, y.val]) := fun a w ha hw => by
  have hr : w.heap[r]? = _ := (hw.ok _ h1.here).2
  have hb : w.heap[bm]? = _ := (hw.ok _ h2.here).2
  unfold execOp
  simp only [ho, ha.ev hx]
  exact run_value (run_entry_at w r bm since seen es clock y hr hb he hn)
end
end Go.Sx
end
section
namespace Go.Proofs.YtflmckoolagikaaDoor
open Go Go.RowKit Go.Fw Go.Sx
set_option maxRecDepth 100000
set_option maxHeartbeats 1000000
attribute [local irreducible] SW SL SQ AtQ SV SC BB LD PK Yields SO SOT SOA SY
theorem cloneS_sc (G : Ctx) (H : List Ent) {vs : List Value} (a : Option Addr) (n c : Nat) [h1 : RdC G H a vs] (hlx : vs.length = n * 1) (hone : vs.all (·.oneCell') = true) (hm : n ≤ 100000000) : SC Tryd.prog G 60 [.slice a n c] H fun v H' => ∃ a' c', v = .slice a' n c' ∧ H' = .own 9 1 a' n c' vs :: H := by
  refine sc_here (callee_of Tryd.func60 rfl rfl) fun w0 hw0 => ?_
  cases a with
  | none =>
    have h0 := At.none_nil (h1.here w0 hw0)
    subst h0
    obtain rfl : n = 0 := by rw [List.length_nil] at hlx; omega
    clear hlx hone
    refine sc_enter1 Tryd.func60 rfl rfl rfl rfl rfl ?_
    repeat' (first | (apply g_sl; first | (apply ks_nil; refine sl_nil ?_) | (apply ks_move; refine s_move rfl rfl ?_) | (apply ks_bin; refine s_bin rfl rfl rfl ?_; first | first | refine bb_enil ?_ | (first | refine bb_of rfl ?_)) | (apply ks_asgn; refine s_asgn rfl rfl ?_) | (apply ks_bi; first | first | refine bb_enil ?_ | refine s_call (c_len rfl rfl) rfl ?_ | refine s_call (c_len_str rfl rfl) rfl ?_ | refine s_call (c_bi rfl rfl rfl rfl) rfl ?_ | refine c_append rfl rfl rfl rfl (by first | rfl | simp [ints]) (by first | rfl | exact ints_one _ | exact octs_one _ | exact strs_one _) (by omega) rfl rfl (fun _ _ => ?_) | refine c_append_nil rfl rfl rfl rfl (by first | rfl | simp [ints]) (by first | rfl | exact ints_one _ | exact octs_one _ | exact strs_one _) (by omega) rfl rfl (fun _ _ => ?_)) | (apply ks_bs; first | refine c_buildSlice rfl rfl rfl rfl rfl rfl rfl rfl rfl rfl (fun _ => ?_) | first | refine bb_enil ?_) | first | refine bb_enil ?_) | (apply sw_seq) | (apply at_srd) | (apply sw_skip) | (apply sw_ret) | (apply sw_exit) | (apply sw_block) | (apply sw_region) | (refine sw_cd rfl ?_; first | (apply gd_t) | (apply gd_ft) | (apply gd_tf) | (apply gd_dec_t <;> intro hq <;> (try (exfalso; omega))) | (apply gd_dec_f <;> intro hq <;> (try (exfalso; omega))) | (apply gd_beq_t <;> intro hq <;> (try (exfalso; omega))) | (apply gd_beq_f <;> intro hq <;> (try (exfalso; omega))) | (apply gd_bne_t <;> intro hq <;> (try (exfalso; omega))) | (apply gd_bne_f <;> intro hq <;> (try (exfalso; omega))) | (apply gd_not_t <;> intro hq) | (apply gd_not_f <;> intro hq) | (apply gd_raw_t <;> intro hq) | (apply gd_raw_f <;> intro hq)) | (apply at_thn) | (apply at_thn_ret) | (apply at_thn_exit) | (apply at_inb) | (apply at_inb_ret) | (apply at_inb_exit) | refine at_inb_pass rfl ?_ | refine c_drawn (by kernel_rfl) ?_)
    · exact e_scf (.own 9 1 none 0 0 [] :: H) (.inr rfl) rfl (fun _ hw => hw.nilrow _ _) ⟨_, _, rfl, rfl⟩
  | some a =>
    refine sc_enter1 Tryd.func60 rfl rfl rfl rfl rfl ?_
    repeat' (first | (apply g_sl; first | (apply ks_nil; refine sl_nil ?_) | (apply ks_move; refine s_move rfl rfl ?_) | (apply ks_bin; refine s_bin rfl rfl rfl ?_; first | first | refine bb_enil ?_ | (refine c_bsl0 rfl rfl rfl rfl (fun _ => ?_)) | (refine c_append rfl rfl rfl rfl hlx hone (by omega) rfl rfl (fun _ _ => ?_)) | (first | refine bb_of rfl ?_)) | (apply ks_asgn; refine s_asgn rfl rfl ?_) | (apply ks_bi; first | first | refine bb_enil ?_ | (refine c_bsl0 rfl rfl rfl rfl (fun _ => ?_)) | (refine c_append rfl rfl rfl rfl hlx hone (by omega) rfl rfl (fun _ _ => ?_)) | refine s_call (c_len rfl rfl) rfl ?_ | refine s_call (c_len_str rfl rfl) rfl ?_ | refine s_call (c_bi rfl rfl rfl rfl) rfl ?_ | refine c_append rfl rfl rfl rfl (by first | rfl | simp [ints]) (by first | rfl | exact ints_one _ | exact octs_one _ | exact strs_one _) (by omega) rfl rfl (fun _ _ => ?_) | refine c_append_nil rfl rfl rfl rfl (by first | rfl | simp [ints]) (by first | rfl | exact ints_one _ | exact octs_one _ | exact strs_one _) (by omega) rfl rfl (fun _ _ => ?_)) | (apply ks_bs; first | refine c_buildSlice rfl rfl rfl rfl rfl rfl rfl rfl rfl rfl (fun _ => ?_) | first | refine bb_enil ?_ | (refine c_bsl0 rfl rfl rfl rfl (fun _ => ?_)) | (refine c_append rfl rfl rfl rfl hlx hone (by omega) rfl rfl (fun _ _ => ?_))) | first | refine bb_enil ?_ | (refine c_bsl0 rfl rfl rfl rfl (fun _ => ?_)) | (refine c_append rfl rfl rfl rfl hlx hone (by omega) rfl rfl (fun _ _ => ?_))) | (apply sw_seq) | (apply at_srd) | (apply sw_skip) | (apply sw_ret) | (apply sw_exit) | (apply sw_block) | (apply sw_region) | (refine sw_cd rfl ?_; first | (apply gd_t) | (apply gd_ft) | (apply gd_tf) | (apply gd_dec_t <;> intro hq <;> (try (exfalso; omega))) | (apply gd_dec_f <;> intro hq <;> (try (exfalso; omega))) | (apply gd_beq_t <;> intro hq <;> (try (exfalso; omega))) | (apply gd_beq_f <;> intro hq <;> (try (exfalso; omega))) | (apply gd_bne_t <;> intro hq <;> (try (exfalso; omega))) | (apply gd_bne_f <;> intro hq <;> (try (exfalso; omega))) | (apply gd_not_t <;> intro hq) | (apply gd_not_f <;> intro hq) | (apply gd_raw_t <;> intro hq) | (apply gd_raw_f <;> intro hq)) | (apply at_thn) | (apply at_thn_ret) | (apply at_thn_exit) | (apply at_inb) | (apply at_inb_ret) | (apply at_inb_exit) | refine at_inb_pass rfl ?_ | refine c_drawn (by kernel_rfl) ?_)
    refine e_sc _ (.inr rfl) rfl (List.Sublist.refl _) ?_
    simp only [Nat.zero_add, List.nil_append]
    exact ⟨_, _, rfl, rfl⟩
theorem cloneV_sc (G : Ctx) (H : List Ent) {vs : List Value} (a : Option Addr) (n c : Nat) [h1 : RdC G H a vs] (hlx : vs.length = n * 4) (hone : vs.all (·.oneCell') = true) (hm : n ≤ 100000000) : SC Tryd.prog G 61 [.slice a n c] H fun v H' => ∃ a' c', v = .slice a' n c' ∧ H' = .own 121 4 a' n c' vs :: H := by
  refine sc_here (callee_of Tryd.func61 rfl rfl) fun w0 hw0 => ?_
  cases a with
  | none =>
    have h0 := At.none_nil (h1.here w0 hw0)
    subst h0
    obtain rfl : n = 0 := by rw [List.length_nil] at hlx; omega
    clear hlx hone
    refine sc_enter1 Tryd.func61 rfl rfl rfl rfl rfl ?_
    repeat' (first | (apply g_sl; first | (apply ks_nil; refine sl_nil ?_) | (apply ks_move; refine s_move rfl rfl ?_) | (apply ks_bin; refine s_bin rfl rfl rfl ?_; first | first | refine bb_enil ?_ | (first | refine bb_of rfl ?_)) | (apply ks_asgn; refine s_asgn rfl rfl ?_) | (apply ks_bi; first | first | refine bb_enil ?_ | refine s_call (c_len rfl rfl) rfl ?_ | refine s_call (c_len_str rfl rfl) rfl ?_ | refine s_call (c_bi rfl rfl rfl rfl) rfl ?_ | refine c_append rfl rfl rfl rfl (by first | rfl | simp [ints]) (by first | rfl | exact ints_one _ | exact octs_one _ | exact strs_one _) (by omega) rfl rfl (fun _ _ => ?_) | refine c_append_nil rfl rfl rfl rfl (by first | rfl | simp [ints]) (by first | rfl | exact ints_one _ | exact octs_one _ | exact strs_one _) (by omega) rfl rfl (fun _ _ => ?_)) | (apply ks_bs; first | refine c_buildSlice rfl rfl rfl rfl rfl rfl rfl rfl rfl rfl (fun _ => ?_) | first | refine bb_enil ?_) | first | refine bb_enil ?_) | (apply sw_seq) | (apply at_srd) | (apply sw_skip) | (apply sw_ret) | (apply sw_exit) | (apply sw_block) | (apply sw_region) | (refine sw_cd rfl ?_; first | (apply gd_t) | (apply gd_ft) | (apply gd_tf) | (apply gd_dec_t <;> intro hq <;> (try (exfalso; omega))) | (apply gd_dec_f <;> intro hq <;> (try (exfalso; omega))) | (apply gd_beq_t <;> intro hq <;> (try (exfalso; omega))) | (apply gd_beq_f <;> intro hq <;> (try (exfalso; omega))) | (apply gd_bne_t <;> intro hq <;> (try (exfalso; omega))) | (apply gd_bne_f <;> intro hq <;> (try (exfalso; omega))) | (apply gd_not_t <;> intro hq) | (apply gd_not_f <;> intro hq) | (apply gd_raw_t <;> intro hq) | (apply gd_raw_f <;> intro hq)) | (apply at_thn) | (apply at_thn_ret) | (apply at_thn_exit) | (apply at_inb) | (apply at_inb_ret) | (apply at_inb_exit) | refine at_inb_pass rfl ?_ | refine c_drawn (by kernel_rfl) ?_)
    · exact e_scf (.own 121 4 none 0 0 [] :: H) (.inr rfl) rfl (fun _ hw => hw.nilrow _ _) ⟨_, _, rfl, rfl⟩
  | some a =>
    refine sc_enter1 Tryd.func61 rfl rfl rfl rfl rfl ?_
    repeat' (first | (apply g_sl; first | (apply ks_nil; refine sl_nil ?_) | (apply ks_move; refine s_move rfl rfl ?_) | (apply ks_bin; refine s_bin rfl rfl rfl ?_; first | first | refine bb_enil ?_ | (refine c_bsl0 rfl rfl rfl rfl (fun _ => ?_)) | (refine c_append rfl rfl rfl rfl hlx hone (by omega) rfl rfl (fun _ _ => ?_)) | (first | refine bb_of rfl ?_)) | (apply ks_asgn; refine s_asgn rfl rfl ?_) | (apply ks_bi; first | first | refine bb_enil ?_ | (refine c_bsl0 rfl rfl rfl rfl (fun _ => ?_)) | (refine c_append rfl rfl rfl rfl hlx hone (by omega) rfl rfl (fun _ _ => ?_)) | refine s_call (c_len rfl rfl) rfl ?_ | refine s_call (c_len_str rfl rfl) rfl ?_ | refine s_call (c_bi rfl rfl rfl rfl) rfl ?_ | refine c_append rfl rfl rfl rfl (by first | rfl | simp [ints]) (by first | rfl | exact ints_one _ | exact octs_one _ | exact strs_one _) (by omega) rfl rfl (fun _ _ => ?_) | refine c_append_nil rfl rfl rfl rfl (by first | rfl | simp [ints]) (by first | rfl | exact ints_one _ | exact octs_one _ | exact strs_one _) (by omega) rfl rfl (fun _ _ => ?_)) | (apply ks_bs; first | refine c_buildSlice rfl rfl rfl rfl rfl rfl rfl rfl rfl rfl (fun _ => ?_) | first | refine bb_enil ?_ | (refine c_bsl0 rfl rfl rfl rfl (fun _ => ?_)) | (refine c_append rfl rfl rfl rfl hlx hone (by omega) rfl rfl (fun _ _ => ?_))) | first | refine bb_enil ?_ | (refine c_bsl0 rfl rfl rfl rfl (fun _ => ?_)) | (refine c_append rfl rfl rfl rfl hlx hone (by omega) rfl rfl (fun _ _ => ?_))) | (apply sw_seq) | (apply at_srd) | (apply sw_skip) | (apply sw_ret) | (apply sw_exit) | (apply sw_block) | (apply sw_region) | (refine sw_cd rfl ?_; first | (apply gd_t) | (apply gd_ft) | (apply gd_tf) | (apply gd_dec_t <;> intro hq <;> (try (exfalso; omega))) | (apply gd_dec_f <;> intro hq <;> (try (exfalso; omega))) | (apply gd_beq_t <;> intro hq <;> (try (exfalso; omega))) | (apply gd_beq_f <;> intro hq <;> (try (exfalso; omega))) | (apply gd_bne_t <;> intro hq <;> (try (exfalso; omega))) | (apply gd_bne_f <;> intro hq <;> (try (exfalso; omega))) | (apply gd_not_t <;> intro hq) | (apply gd_not_f <;> intro hq) | (apply gd_raw_t <;> intro hq) | (apply gd_raw_f <;> intro hq)) | (apply at_thn) | (apply at_thn_ret) | (apply at_thn_exit) | (apply at_inb) | (apply at_inb_ret) | (apply at_inb_exit) | refine at_inb_pass rfl ?_ | refine c_drawn (by kernel_rfl) ?_)
    refine e_sc _ (.inr rfl) rfl (List.Sublist.refl _) ?_
    simp only [Nat.zero_add, List.nil_append]
    exact ⟨_, _, rfl, rfl⟩
end Go.Proofs.YtflmckoolagikaaDoor
end
section
namespace Go.Proofs.YtflmckoolagikaaDoor
open Go.RowKit Go.Fw
theorem u8i : (Tryd.prog.info? 5).map (fun i => (i.zero, i.size, i.bytes)) = some (some (.int .u8 0), 1, 1) := by kernel_rfl
/-- Bytes of numbers. -/
def bytesOf (xs : List Int) : ByteArray := strOfNums (xs.map (· % 256))
def bytesAt (xs : List Int) (n k : Nat) : List Value := octs ((xs.take k).map (· % 256) ++ List.replicate (n - k) 0)
theorem bytesAt_zero (xs : List Int) (n : Nat) : (madeCells #[Value.int .u8 0] n).toList = bytesAt xs n 0 := by
  rw [toList_madeCells_one]; simp [bytesAt, octs]
theorem bytesAt_get (xs : List Int) (n k : Nat) (hn : n = xs.length) (hk : k < n) : (bytesAt xs n k)[k]? = some (.int .u8 0) := by
  unfold bytesAt octs
  rw [List.getElem?_map, List.getElem?_append_right (by simp; omega)]
  have : k - (List.map (fun x => x % 256) (List.take k xs)).length = 0 := by simp; omega
  rw [this]
  obtain ⟨m, hm⟩ : ∃ m, n - k = m + 1 := ⟨n - k - 1, by omega⟩
  rw [hm]; rfl
theorem bytesAt_set (xs : List Int) (n k : Nat) (hn : n = xs.length) (hk : k < n) : (bytesAt xs n k).set k (.int .u8 (xs[k]?.getD 0 % 256)) = bytesAt xs n (k + 1) := by
  unfold bytesAt octs
  have hk' : k < xs.length := by omega
  have e : List.take (k + 1) xs = List.take k xs ++ [xs[k]] := by rw [List.take_succ_eq_append_getElem hk']
  obtain ⟨m, hm⟩ : ∃ m, n - k = m + 1 := ⟨n - k - 1, by omega⟩
  rw [e, hm, show n - (k + 1) = m from by omega, List.map_append, List.set_append_right _ _ (by simp; omega)]
  have h0 : k - (List.map (Value.int .u8) (List.map (fun x => x % 256) (List.take k xs))).length = 0 := by simp; omega
  rw [h0, List.replicate_succ]
  rw [List.getElem?_eq_getElem hk']
  simp only [List.map_append, List.map_cons, List.map_nil, List.append_assoc, List.set_cons_zero, List.cons_append, List.nil_append, Option.getD_some]
theorem bytesAt_all (xs : List Int) (n : Nat) (hn : n = xs.length) : bytesAt xs n n = octs (xs.map (· % 256)) := by
  subst hn; simp [bytesAt]
set_option maxRecDepth 100000 in
theorem bytes_any (xs : List Int) (a : Option Addr) (n c : Nat) (w : World) (hn : n = xs.length) (hl : xs.length ≤ 100000) (hx : At w a (ints xs)) :
    Calls Tryd.prog 47 #[.slice a n c] w fun e w' => e = .returned (.string (bytesOf xs)) ∧ Below w.heap.size w w' := by
  obtain ⟨i0, hi, hz0, hz1, hz2⟩ := info_parts u8i
  have Hn := Lib.hid hn
  rw [← hn] at hl
  clear hn
  go_enter Tryd.func47, Tryd.ntmps47
  go_wp2_with (at_make; refine wpList_make_full _ rfl _ _ 92 rfl w.heap.size 5 i0 (.int .u8 0) 1 Tryd.underlying92 hi hz0 hz1 .i64 .i64 _ _ n rfl rfl rfl rfl ?c1 ?c2 ?c3 ?_)
  case c1 => rw [hz2]; omega
  case c2 => unfold maxLen; omega
  case c3 => exact Nat.le_refl _
  intro w1 hown hgr
  have hb1 : Below w.heap.size w w1 := (Below.refl _ w).grown hgr (Nat.le_refl _) (fun _ h => by cases h)
  go_wp2
  go_loopw [11] (fun i wr => ∃ k : Nat, k ≤ n ∧ i = .int .i64 k ∧ wr.ownsRow w.heap.size 5 1 (.slice (some ⟨w.heap.size, 0, none⟩) n n) n (bytesAt xs n k) ∧ Below w.heap.size w wr) (fun i _ => n - (intOf i).toNat)
  case atStart => exact ⟨0, Nat.zero_le _, rfl, by rw [← bytesAt_zero]; exact hown, hb1⟩
  case round =>
    clear hown hb1 hgr
    obtain ⟨k, hk, rfl, hown, hbl⟩ := hrel
    by_cases hlt : k < n
    · obtain ⟨b, o, ha, hb, hc⟩ := hx.int (i := k) (by rw [← Hn.out]; exact hlt)
      rw [ha]
      have hcx : wr.cell? ⟨b, o + k, none⟩ = some (.int .i64 (xs.getD k 0)) := (hbl.cell (by exact hb)).trans (hc k (by rw [← Hn.out]; exact hlt))
      have hcg : wr.cell? ⟨w.heap.size, k, none⟩ = some (.int .u8 0) := by rw [hown.cellAt k (by omega)]; exact bytesAt_get xs n k Hn.out hlt
      have hfg : wr.frozen? ⟨w.heap.size, k, none⟩ = false := hown.frozenAt k
      clear hc ha
      go_wp2
      go_roundw
      case rel => exact ⟨k + 1, by omega, by go_num, by rw [← bytesAt_set xs n k Hn.out hlt]; exact (hown.stored k _).1, hbl.setCell (Nat.le_refl _) _⟩
      case measure => simp [intOf]; omega
    · obtain rfl : k = n := by omega
      rw [bytesAt_all xs k Hn.out] at hown
      have hcv := run_convert_bytes_arg (P := Tryd.prog) wr 92 5 Tryd.underlying92 Tryd.underlying5 w.heap.size 0 k k (xs.map (· % 256)) (by rw [Hn.out]; simp)
        (fun i hi => by rw [Nat.zero_add, hown.cellAt i (by omega)]; simp [octs, List.getD, List.getElem?_eq_getElem (show i < xs.length by rw [← Hn.out]; exact hi)]) 9 Tryd.underlying9
      go_wp2
      go_ret
      exact ⟨rfl, hbl⟩
end Go.Proofs.YtflmckoolagikaaDoor
end
section
namespace Go.Fw
open Go Go.RowKit Go.Sx
end Go.Fw
namespace Go.Proofs.YtflmckoolagikaaDoor
open Go Go.RowKit Go.Fw Go.Sx
/-- The four words as cells. -/
def wordsL (f : Nat → Nat) : List Value := [.int .u64 (f 0), .int .u64 (f 1), .int .u64 (f 2), .int .u64 (f 3)]
def Wf (f : Nat → Nat) : Prop := ∀ j, j < 4 → f j < 18446744073709551616
theorem wordsL_at (f : Nat → Nat) (j : Nat) (h : j < 4) : (wordsL f)[j]? = some (.int .u64 (f j)) := by
  match j, h with
  | 0, _ => rfl
  | 1, _ => rfl
  | 2, _ => rfl
  | 3, _ => rfl
def setF (f : Nat → Nat) (c : Nat) : Nat → Nat := fun j => if j = c / 64 then f j ||| 2 ^ (c % 64) else f j
theorem wordsL_set (f g : Nat → Nat) (j : Nat) (h : j < 4) (hg : ∀ i, i ≠ j → g i = f i) : (wordsL f).set j (.int .u64 (g j)) = wordsL g := by
  match j, h with
  | 0, _ => simp [wordsL, hg 1 (by omega), hg 2 (by omega), hg 3 (by omega)]
  | 1, _ => simp [wordsL, hg 0 (by omega), hg 2 (by omega), hg 3 (by omega)]
  | 2, _ => simp [wordsL, hg 0 (by omega), hg 1 (by omega), hg 3 (by omega)]
  | 3, _ => simp [wordsL, hg 0 (by omega), hg 1 (by omega), hg 2 (by omega)]
theorem pw_nat (k : Nat) (h : k < 64) : pw k = ((2 ^ k : Nat) : Int) ∧ 2 ^ k < 18446744073709551616 := ⟨by rw [pw_eq]; simp, Nat.pow_lt_pow_right (a := 2) (by omega) h⟩
theorem set_word (f : Nat → Nat) (c : Nat) (hf : Wf f) (hc : c < 256) : ibits .or .u64 (f (c / 64)) (pw (c % 64)) = setF f c (c / 64) ∧ Wf (setF f c) := by
  obtain ⟨h1, h2⟩ := pw_nat (c % 64) (by omega)
  refine ⟨?_, fun j hj => ?_⟩
  · rw [ibits_eq, h1, u64_or_nat _ _ (hf _ (by omega)) h2]
    unfold setF; rw [if_pos rfl]
  · unfold setF
    split
    · exact Nat.or_lt_two_pow (n := 64) (hf j hj) h2
    · exact hf j hj
end Go.Proofs.YtflmckoolagikaaDoor
end
section
namespace Go.Proofs.YtflmckoolagikaaDoor
open Go Go.RowKit Go.Fw Go.Sx
set_option maxRecDepth 100000
set_option maxHeartbeats 1000000
attribute [local irreducible] SW SL SQ AtQ SV SC BB LD PK Yields SO SOT SOA SY
/-- The usual columns, set one by one. -/
def usF : Nat → (Nat → Nat)
  | 0 => fun _ => 0
  | k + 1 => setF (usF k) (8 * (k + 1))
theorem usF_ok : ∀ k, k ≤ 31 → Wf (usF k)
  | 0, _ => fun _ _ => by show 0 < _; omega
  | k + 1, h => (set_word (usF k) (8 * (k + 1)) (usF_ok k (by omega)) (by omega)).2
theorem usual_sv (G : Ctx) (H : List Ent) : SV Tryd.prog G 110 [] H (.agg (wordsL (usF 31)).toArray) := by
  refine sv_enter0 Tryd.func110 rfl rfl rfl rfl rfl ?_
  repeat' (first | (apply g_sl; first | (apply ks_nil; refine sl_nil ?_) | (apply ks_move; refine s_move rfl rfl ?_) | (apply ks_bin; refine s_bin rfl rfl rfl ?_; first | fail | (first | (apply kb_add; first | refine bb_add ⟨by omega, by omega⟩ ?_ | refine bb_of rfl ?_) | (apply kb_quo; refine bb_quo ⟨by omega, by omega⟩ (by omega) (by omega) ?_) | (apply kb_rem; refine bb_rem (by omega) (by omega) ?_) | (apply kb_or; first | refine bb_or (by first | omega | apply iand_nn | apply iclr_nn | apply ior_nn) (by first | omega | (apply iand_l <;> omega) | (apply iclr_l; (apply iand_nn); (apply iand_l <;> omega)) | (apply iclr_l <;> omega) | (apply ior_lt63 <;> omega)) (by first | omega | apply iand_nn | apply iclr_nn | apply ior_nn) (by first | omega | (apply iand_l <;> omega) | (apply iclr_l; (apply iand_nn); (apply iand_l <;> omega)) | (apply iclr_l <;> omega) | (apply ior_lt63 <;> omega)) ?_ | refine bb_bits rfl ?_) | refine bb_of rfl ?_)) | (apply ks_load; first | (refine s_load rfl rfl ?_; first | refine ld_cell rfl ?_ | refine ld_whole rfl ?_ | refine ld_elem rfl ?_ | refine ld_part rfl rfl ?_) | fail) | (apply ks_asgn; refine s_asgn rfl rfl ?_) | (apply ks_field; first | refine s_field (c_field0 rfl rfl) rfl ?_ | refine s_field (c_field rfl rfl) rfl ?_) | (apply ks_indexA; first | refine s_indexA (c_indexAddr rfl rfl rfl rfl (by omega) (by omega)) rfl ?_ | fail) | (apply ks_store; first | first | refine c_store rfl rfl rfl rfl rfl rfl rfl ?_ | refine c_storew rfl rfl rfl rfl rfl rfl rfl rfl ?_ | refine c_storee rfl rfl rfl rfl rfl (by omega) rfl ?_ | fail) | (apply ks_alloc; refine c_alloc rfl rfl rfl rfl (fun _ => ?_)) | fail) | (apply sw_seq) | (apply at_srd) | (apply sw_skip) | (apply sw_ret) | (apply sw_exit) | (apply sw_block) | ((fail_if_success (refine g_reg (id := 3) ?_)); apply sw_region) | (refine sw_cd rfl ?_; first | (apply gd_t) | (apply gd_ft) | (apply gd_tf) | (apply gd_dec_t <;> intro hq <;> (try (exfalso; omega))) | (apply gd_dec_f <;> intro hq <;> (try (exfalso; omega))) | (apply gd_beq_t <;> intro hq <;> (try (exfalso; omega))) | (apply gd_beq_f <;> intro hq <;> (try (exfalso; omega))) | (apply gd_bne_t <;> intro hq <;> (try (exfalso; omega))) | (apply gd_bne_f <;> intro hq <;> (try (exfalso; omega))) | (apply gd_not_t <;> intro hq) | (apply gd_not_f <;> intro hq) | (apply gd_raw_t <;> intro hq) | (apply gd_raw_f <;> intro hq)) | (apply at_thn) | (apply at_thn_ret) | (apply at_thn_exit) | (apply at_inb) | (apply at_inb_ret) | (apply at_inb_exit) | refine at_inb_pass rfl ?_ | ((fail_if_success (refine g_reg (id := 3) ?_)); refine c_drawn (by kernel_rfl) ?_))
  rename_i b b1
  refine sw_loopg (α := Nat) (fun k => [(0, .pointer (some ⟨b, 0, none⟩)), (1, .pointer (some ⟨b1, 0, none⟩)), (2, .int .i64 (8 * ((k : Int) + 1)))]) (fun k => .blk b1 63 (wordsL (usF k)) :: .blk b 63 [.int .u64 0, .int .u64 0, .int .u64 0, .int .u64 0] :: H)
    (fun k => k ≤ 31) (fun k => 31 - k) 0 (by decide) (by repeat (first | exact Le.nil _ | refine Le.cons (by first | rfl | (exact congrArg some (congrArg (Value.int _) (by omega)))) ?_)) (fun _ hw => hw.subs (by repeat (first | refine Subs.cons (by repeat constructor) ?_ | exact Subs.sub (by repeat (first | exact List.Sublist.refl _ | exact List.nil_sublist _ | refine List.Sublist.cons _ ?_))))) ?_
  intro k hk
  by_cases hlt : k < 31
  · obtain ⟨hs1, -⟩ := set_word (usF k) (8 * (k + 1)) (usF_ok k hk) (by omega)
    have hx := wordsL_at (usF k) (8 * (k + 1) / 64) (by omega)
    have hset1 := wordsL_set (usF k) (setF (usF k) (8 * (k + 1))) (8 * (k + 1) / 64) (by omega) (fun i hi => if_neg hi)
    have hi0 : 0 + ((8 * ((k : Int) + 1)) / 64).toNat * 1 = 8 * (k + 1) / 64 := by omega
    rw [← hi0] at hx hset1 hs1
    have hD : pw ((8 * ((k : Int) + 1)) % 64).toNat = pw (8 * (k + 1) % 64) := by rw [show ((8 * ((k : Int) + 1)) % 64).toNat = 8 * (k + 1) % 64 from by omega]
    have hl1 : 0 + ((8 * ((k : Int) + 1)) / 64).toNat * 1 < (wordsL (usF k)).length := by show _ < 4; omega
    generalize pw (8 * (k + 1) % 64) = D at *
    have hF : setF (usF k) (8 * (k + 1)) = usF (k + 1) := rfl
    rw [hF] at hset1 hs1
    have hnx : 8 * ((k : Int) + 1) + 8 = 8 * (((k + 1 : Nat) : Int) + 1) := by omega
    clear hi0 hF
    repeat' (first | (apply g_sl; first | (apply ks_nil; refine sl_nil ?_) | (apply ks_move; refine s_move rfl rfl ?_) | (apply ks_bin; refine s_bin rfl rfl rfl ?_; first | first | (refine s_indexA (c_indexP rfl rfl rfl (by omega) (by omega)) rfl ?_) | (refine s_load rfl rfl ?_; refine ld_cell hx ?_) | (refine bb_shl1V hD (by omega) (by omega) ?_) | (refine bb_bitsV rfl hs1 ?_) | (refine c_storekV rfl rfl rfl rfl rfl hset1 hl1 rfl ?_) | (first | (apply kb_add; first | refine bb_add ⟨by omega, by omega⟩ ?_ | refine bb_of rfl ?_) | (apply kb_quo; refine bb_quo ⟨by omega, by omega⟩ (by omega) (by omega) ?_) | (apply kb_rem; refine bb_rem (by omega) (by omega) ?_) | (apply kb_or; first | refine bb_or (by first | omega | apply iand_nn | apply iclr_nn | apply ior_nn) (by first | omega | (apply iand_l <;> omega) | (apply iclr_l; (apply iand_nn); (apply iand_l <;> omega)) | (apply iclr_l <;> omega) | (apply ior_lt63 <;> omega)) (by first | omega | apply iand_nn | apply iclr_nn | apply ior_nn) (by first | omega | (apply iand_l <;> omega) | (apply iclr_l; (apply iand_nn); (apply iand_l <;> omega)) | (apply iclr_l <;> omega) | (apply ior_lt63 <;> omega)) ?_ | refine bb_bits rfl ?_) | refine bb_of rfl ?_)) | (apply ks_load; first | (refine s_load rfl rfl ?_; first | refine ld_cell rfl ?_ | refine ld_whole rfl ?_ | refine ld_elem rfl ?_ | refine ld_part rfl rfl ?_) | first | (refine s_indexA (c_indexP rfl rfl rfl (by omega) (by omega)) rfl ?_) | (refine s_load rfl rfl ?_; refine ld_cell hx ?_) | (refine bb_shl1V hD (by omega) (by omega) ?_) | (refine bb_bitsV rfl hs1 ?_) | (refine c_storekV rfl rfl rfl rfl rfl hset1 hl1 rfl ?_)) | (apply ks_asgn; refine s_asgn rfl rfl ?_) | (apply ks_field; first | refine s_field (c_field0 rfl rfl) rfl ?_ | refine s_field (c_field rfl rfl) rfl ?_) | (apply ks_indexA; first | refine s_indexA (c_indexAddr rfl rfl rfl rfl (by omega) (by omega)) rfl ?_ | first | (refine s_indexA (c_indexP rfl rfl rfl (by omega) (by omega)) rfl ?_) | (refine s_load rfl rfl ?_; refine ld_cell hx ?_) | (refine bb_shl1V hD (by omega) (by omega) ?_) | (refine bb_bitsV rfl hs1 ?_) | (refine c_storekV rfl rfl rfl rfl rfl hset1 hl1 rfl ?_)) | (apply ks_store; first | first | refine c_store rfl rfl rfl rfl rfl rfl rfl ?_ | refine c_storew rfl rfl rfl rfl rfl rfl rfl rfl ?_ | refine c_storee rfl rfl rfl rfl rfl (by omega) rfl ?_ | first | (refine s_indexA (c_indexP rfl rfl rfl (by omega) (by omega)) rfl ?_) | (refine s_load rfl rfl ?_; refine ld_cell hx ?_) | (refine bb_shl1V hD (by omega) (by omega) ?_) | (refine bb_bitsV rfl hs1 ?_) | (refine c_storekV rfl rfl rfl rfl rfl hset1 hl1 rfl ?_)) | (apply ks_alloc; refine c_alloc rfl rfl rfl rfl (fun _ => ?_)) | first | (refine s_indexA (c_indexP rfl rfl rfl (by omega) (by omega)) rfl ?_) | (refine s_load rfl rfl ?_; refine ld_cell hx ?_) | (refine bb_shl1V hD (by omega) (by omega) ?_) | (refine bb_bitsV rfl hs1 ?_) | (refine c_storekV rfl rfl rfl rfl rfl hset1 hl1 rfl ?_)) | (apply g_sq; first | (apply kq_nil; refine sq_nil ?_) | (apply kq_move; refine q_move rfl rfl ?_) | (apply kq_bin; refine q_bin rfl rfl rfl ?_; first | fail | (first | (apply kb_add; first | refine bb_add ⟨by omega, by omega⟩ ?_ | refine bb_of rfl ?_) | (apply kb_quo; refine bb_quo ⟨by omega, by omega⟩ (by omega) (by omega) ?_) | (apply kb_rem; refine bb_rem (by omega) (by omega) ?_) | (apply kb_or; first | refine bb_or (by first | omega | apply iand_nn | apply iclr_nn | apply ior_nn) (by first | omega | (apply iand_l <;> omega) | (apply iclr_l; (apply iand_nn); (apply iand_l <;> omega)) | (apply iclr_l <;> omega) | (apply ior_lt63 <;> omega)) (by first | omega | apply iand_nn | apply iclr_nn | apply ior_nn) (by first | omega | (apply iand_l <;> omega) | (apply iclr_l; (apply iand_nn); (apply iand_l <;> omega)) | (apply iclr_l <;> omega) | (apply ior_lt63 <;> omega)) ?_ | refine bb_bits rfl ?_) | refine bb_of rfl ?_)) | (apply kq_load; first | (refine q_load rfl rfl ?_; first | refine ld_cell rfl ?_ | refine ld_whole rfl ?_ | refine ld_elem rfl ?_ | refine ld_part rfl rfl ?_) | fail) | (apply kq_asgn; refine q_asgn rfl rfl ?_) | (apply kq_field; first | refine q_field (c_field0 rfl rfl) rfl ?_ | refine q_field (c_field rfl rfl) rfl ?_) | (apply kq_indexA; first | refine q_indexA (c_indexAddr rfl rfl rfl rfl (by omega) (by omega)) rfl ?_ | fail) | fail) | (apply g_atso; refine so_back (k := 0) (fun _ hw => hw.subs (by repeat (first | refine Subs.cons (by repeat constructor) ?_ | exact Subs.sub (by repeat (first | exact List.Sublist.refl _ | exact List.nil_sublist _ | refine List.Sublist.cons _ ?_))))) ?_) | (apply g_sot; first | (refine sot_skip rfl ?_) | (refine sot_take rfl rfl rfl rfl (by kernel_rfl) (by decide +kernel) (by decide +kernel) ?_; (first | (apply ky_move; refine sy_val (y_move rfl rfl) ?_) | (apply ky_bin; refine sy_bin rfl rfl ?_; first | first | (refine sy_val (c_indexP rfl rfl rfl (by omega) (by omega)) ?_) | (refine bb_shl1V hD (by omega) (by omega) ?_) | (refine bb_bitsV rfl hs1 ?_) | (first | (apply kb_add; first | refine bb_add ⟨by omega, by omega⟩ ?_ | refine bb_of rfl ?_) | (apply kb_quo; refine bb_quo ⟨by omega, by omega⟩ (by omega) (by omega) ?_) | (apply kb_rem; refine bb_rem (by omega) (by omega) ?_) | (apply kb_or; first | refine bb_or (by first | omega | apply iand_nn | apply iclr_nn | apply ior_nn) (by first | omega | (apply iand_l <;> omega) | (apply iclr_l; (apply iand_nn); (apply iand_l <;> omega)) | (apply iclr_l <;> omega) | (apply ior_lt63 <;> omega)) (by first | omega | apply iand_nn | apply iclr_nn | apply ior_nn) (by first | omega | (apply iand_l <;> omega) | (apply iclr_l; (apply iand_nn); (apply iand_l <;> omega)) | (apply iclr_l <;> omega) | (apply ior_lt63 <;> omega)) ?_ | refine bb_bits rfl ?_) | refine bb_of rfl ?_)) | (apply ky_load; first | (refine sy_load rfl ?_; first | refine ld_cell rfl ?_ | refine ld_whole rfl ?_ | refine ld_elem rfl ?_ | refine ld_part rfl rfl ?_) | first | (refine sy_val (c_indexP rfl rfl rfl (by omega) (by omega)) ?_) | (refine bb_shl1V hD (by omega) (by omega) ?_) | (refine bb_bitsV rfl hs1 ?_)) | (apply ky_asgn; refine sy_val (y_assign rfl rfl) ?_) | (apply ky_field; first | refine sy_val (c_field0 rfl rfl) ?_ | refine sy_val (c_field rfl rfl) ?_) | (apply ky_indexA; first | refine sy_val (c_indexAddr rfl rfl rfl rfl (by omega) (by omega)) ?_ | first | (refine sy_val (c_indexP rfl rfl rfl (by omega) (by omega)) ?_) | (refine bb_shl1V hD (by omega) (by omega) ?_) | (refine bb_bitsV rfl hs1 ?_)) | first | (refine sy_val (c_indexP rfl rfl rfl (by omega) (by omega)) ?_) | (refine bb_shl1V hD (by omega) (by omega) ?_) | (refine bb_bitsV rfl hs1 ?_))) | (refine sot_takeg rfl rfl rfl rfl rfl (by kernel_rfl) (by decide +kernel) (by decide +kernel) ?_; first | (apply gd_t) | (apply gd_ft) | (apply gd_tf) | (apply gd_dec_t <;> intro hq <;> (try (exfalso; omega))) | (apply gd_dec_f <;> intro hq <;> (try (exfalso; omega))) | (apply gd_beq_t <;> intro hq <;> (try (exfalso; omega))) | (apply gd_beq_f <;> intro hq <;> (try (exfalso; omega))) | (apply gd_bne_t <;> intro hq <;> (try (exfalso; omega))) | (apply gd_bne_f <;> intro hq <;> (try (exfalso; omega))) | (apply gd_not_t <;> intro hq) | (apply gd_not_f <;> intro hq) | (apply gd_raw_t <;> intro hq) | (apply gd_raw_f <;> intro hq)) | (refine sot_next rfl ?_) | (refine so_done (by decide +kernel) ?_) | (refine sot_all (by kernel_rfl) ?_)) | (apply g_soa; first | (refine soa_end rfl) | (refine soa_no (by decide +kernel) ?_) | (refine soa_yes rfl ?_ ?_)) | (apply g_sy; (first | (apply ky_move; refine sy_val (y_move rfl rfl) ?_) | (apply ky_bin; refine sy_bin rfl rfl ?_; first | first | (refine sy_val (c_indexP rfl rfl rfl (by omega) (by omega)) ?_) | (refine bb_shl1V hD (by omega) (by omega) ?_) | (refine bb_bitsV rfl hs1 ?_) | (first | (apply kb_add; first | refine bb_add ⟨by omega, by omega⟩ ?_ | refine bb_of rfl ?_) | (apply kb_quo; refine bb_quo ⟨by omega, by omega⟩ (by omega) (by omega) ?_) | (apply kb_rem; refine bb_rem (by omega) (by omega) ?_) | (apply kb_or; first | refine bb_or (by first | omega | apply iand_nn | apply iclr_nn | apply ior_nn) (by first | omega | (apply iand_l <;> omega) | (apply iclr_l; (apply iand_nn); (apply iand_l <;> omega)) | (apply iclr_l <;> omega) | (apply ior_lt63 <;> omega)) (by first | omega | apply iand_nn | apply iclr_nn | apply ior_nn) (by first | omega | (apply iand_l <;> omega) | (apply iclr_l; (apply iand_nn); (apply iand_l <;> omega)) | (apply iclr_l <;> omega) | (apply ior_lt63 <;> omega)) ?_ | refine bb_bits rfl ?_) | refine bb_of rfl ?_)) | (apply ky_load; first | (refine sy_load rfl ?_; first | refine ld_cell rfl ?_ | refine ld_whole rfl ?_ | refine ld_elem rfl ?_ | refine ld_part rfl rfl ?_) | first | (refine sy_val (c_indexP rfl rfl rfl (by omega) (by omega)) ?_) | (refine bb_shl1V hD (by omega) (by omega) ?_) | (refine bb_bitsV rfl hs1 ?_)) | (apply ky_asgn; refine sy_val (y_assign rfl rfl) ?_) | (apply ky_field; first | refine sy_val (c_field0 rfl rfl) ?_ | refine sy_val (c_field rfl rfl) ?_) | (apply ky_indexA; first | refine sy_val (c_indexAddr rfl rfl rfl rfl (by omega) (by omega)) ?_ | first | (refine sy_val (c_indexP rfl rfl rfl (by omega) (by omega)) ?_) | (refine bb_shl1V hD (by omega) (by omega) ?_) | (refine bb_bitsV rfl hs1 ?_)) | first | (refine sy_val (c_indexP rfl rfl rfl (by omega) (by omega)) ?_) | (refine bb_shl1V hD (by omega) (by omega) ?_) | (refine bb_bitsV rfl hs1 ?_))) | (apply sw_seq) | (apply at_srd) | (apply sw_skip) | (apply sw_ret) | (apply sw_exit) | (apply sw_block) | (apply sw_region) | (refine sw_cd rfl ?_; first | (apply gd_t) | (apply gd_ft) | (apply gd_tf) | (apply gd_dec_t <;> intro hq <;> (try (exfalso; omega))) | (apply gd_dec_f <;> intro hq <;> (try (exfalso; omega))) | (apply gd_beq_t <;> intro hq <;> (try (exfalso; omega))) | (apply gd_beq_f <;> intro hq <;> (try (exfalso; omega))) | (apply gd_bne_t <;> intro hq <;> (try (exfalso; omega))) | (apply gd_bne_f <;> intro hq <;> (try (exfalso; omega))) | (apply gd_not_t <;> intro hq) | (apply gd_not_f <;> intro hq) | (apply gd_raw_t <;> intro hq) | (apply gd_raw_f <;> intro hq)) | (apply at_thn) | (apply at_thn_ret) | (apply at_thn_exit) | (apply at_inb) | (apply at_inb_ret) | (apply at_inb_exit) | refine at_inb_pass rfl ?_ | ((refine g_reg (id := 5) ?_; refine c_drawno (H) (fun _ hw => hw.subs (by repeat (first | refine Subs.cons (by repeat constructor) ?_ | exact Subs.sub (by repeat (first | exact List.Sublist.refl _ | exact List.nil_sublist _ | refine List.Sublist.cons _ ?_))))) ?_)) | refine c_drawn (by kernel_rfl) ?_)
    refine at_meet (k + 1) ⟨by omega, by omega⟩ ?_ (fun _ hw => hw.subs (by repeat (first | refine Subs.cons (by repeat constructor) ?_ | exact Subs.sub (by repeat (first | exact List.Sublist.refl _ | exact List.nil_sublist _ | refine List.Sublist.cons _ ?_)))))
    rw [← hnx]; exact (by repeat (first | exact Le.nil _ | refine Le.cons (by first | rfl | (exact congrArg some (congrArg (Value.int _) (by omega)))) ?_))
  · obtain rfl : k = 31 := by omega
    repeat' (first | (apply g_sl; first | (apply ks_nil; refine sl_nil ?_) | (apply ks_move; refine s_move rfl rfl ?_) | (apply ks_bin; refine s_bin rfl rfl rfl ?_; first | fail | (first | (apply kb_add; first | refine bb_add ⟨by omega, by omega⟩ ?_ | refine bb_of rfl ?_) | (apply kb_quo; refine bb_quo ⟨by omega, by omega⟩ (by omega) (by omega) ?_) | (apply kb_rem; refine bb_rem (by omega) (by omega) ?_) | (apply kb_or; first | refine bb_or (by first | omega | apply iand_nn | apply iclr_nn | apply ior_nn) (by first | omega | (apply iand_l <;> omega) | (apply iclr_l; (apply iand_nn); (apply iand_l <;> omega)) | (apply iclr_l <;> omega) | (apply ior_lt63 <;> omega)) (by first | omega | apply iand_nn | apply iclr_nn | apply ior_nn) (by first | omega | (apply iand_l <;> omega) | (apply iclr_l; (apply iand_nn); (apply iand_l <;> omega)) | (apply iclr_l <;> omega) | (apply ior_lt63 <;> omega)) ?_ | refine bb_bits rfl ?_) | refine bb_of rfl ?_)) | (apply ks_load; first | (refine s_load rfl rfl ?_; first | refine ld_cell rfl ?_ | refine ld_whole rfl ?_ | refine ld_elem rfl ?_ | refine ld_part rfl rfl ?_) | fail) | (apply ks_asgn; refine s_asgn rfl rfl ?_) | (apply ks_field; first | refine s_field (c_field0 rfl rfl) rfl ?_ | refine s_field (c_field rfl rfl) rfl ?_) | (apply ks_indexA; first | refine s_indexA (c_indexAddr rfl rfl rfl rfl (by omega) (by omega)) rfl ?_ | fail) | (apply ks_store; first | first | refine c_store rfl rfl rfl rfl rfl rfl rfl ?_ | refine c_storew rfl rfl rfl rfl rfl rfl rfl rfl ?_ | refine c_storee rfl rfl rfl rfl rfl (by omega) rfl ?_ | fail) | (apply ks_alloc; refine c_alloc rfl rfl rfl rfl (fun _ => ?_)) | fail) | (apply sw_seq) | (apply at_srd) | (apply sw_skip) | (apply sw_ret) | (apply sw_exit) | (apply sw_block) | (apply sw_region) | (refine sw_cd rfl ?_; first | (apply gd_t) | (apply gd_ft) | (apply gd_tf) | (apply gd_dec_t <;> intro hq <;> (try (exfalso; omega))) | (apply gd_dec_f <;> intro hq <;> (try (exfalso; omega))) | (apply gd_beq_t <;> intro hq <;> (try (exfalso; omega))) | (apply gd_beq_f <;> intro hq <;> (try (exfalso; omega))) | (apply gd_bne_t <;> intro hq <;> (try (exfalso; omega))) | (apply gd_bne_f <;> intro hq <;> (try (exfalso; omega))) | (apply gd_not_t <;> intro hq) | (apply gd_not_f <;> intro hq) | (apply gd_raw_t <;> intro hq) | (apply gd_raw_f <;> intro hq)) | (apply at_thn) | (apply at_thn_ret) | (apply at_thn_exit) | (apply at_inb) | (apply at_inb_ret) | (apply at_inb_exit) | refine at_inb_pass rfl ?_ | refine c_drawn (by kernel_rfl) ?_)
    refine e_scc (H) (by first | exact .inl rfl | exact .inr rfl) rfl (by first | rfl | simp) rfl (fun _ hw => hw.subs (by repeat (first | refine Subs.cons (by repeat constructor) ?_ | exact Subs.sub (by repeat (first | exact List.Sublist.refl _ | exact List.nil_sublist _ | refine List.Sublist.cons _ ?_))))) ?_
    exact ⟨rfl, rfl⟩
end Go.Proofs.YtflmckoolagikaaDoor
end
section
namespace Go.Proofs.YtflmckoolagikaaDoor
open Go.RowKit Go.Fw
def refTab : List (Int × Int) := [(0, 0), (32, 1), (127, 0), (160, 1), (768, 0), (880, 1), (4352, 2), (4448, 1), (8203, 0), (8208, 1), (11904, 2), (12351, 1), (12353, 2), (19904, 1), (19968, 2), (42192, 1), (44032, 2), (55204, 1), (63744, 2), (64256, 1), (65024, 0), (65040, 1), (65072, 2), (65136, 1), (65280, 2), (65377, 1), (65504, 2), (65511, 1), (127744, 2), (128592, 1), (129280, 2), (129536, 1), (131072, 2), (262142, 1)]
def isRune (n : Int) : Bool := decide ((0 ≤ n ∧ n ≤ 55295) ∨ (57344 ≤ n ∧ n ≤ 1114111))
def refTo (n : Int) (k : Nat) : Int := (refTab.take k).foldl (fun w x => if x.1 ≤ n then x.2 else w) 0
def refWidth (n : Int) : Int := if isRune n = true then refTo n 34 else 0
end Go.Proofs.YtflmckoolagikaaDoor
end
section
namespace Go.Proofs.YtflmckoolagikaaDoor
open Go.RowKit Go.Fw
theorem refWidth_bd (n : Int) : 0 ≤ refWidth n ∧ refWidth n ≤ 2 := by
  unfold refWidth refTo
  split
  · have : ∀ (l : List (Int × Int)) (w : Int), (∀ x ∈ l, 0 ≤ x.2 ∧ x.2 ≤ 2) → 0 ≤ w ∧ w ≤ 2 → 0 ≤ l.foldl (fun w x => if x.1 ≤ n then x.2 else w) w ∧ l.foldl (fun w x => if x.1 ≤ n then x.2 else w) w ≤ 2 := by
      intro l
      induction l with
      | nil => intro w _ h; exact h
      | cons x l ih =>
        intro w hl h
        rw [List.foldl_cons]
        refine ih _ (fun y hy => hl y (by simp [hy])) ?_
        have := hl x (by simp)
        split <;> omega
    exact this _ _ (by decide) (by omega)
  · omega
def refWidths (l : List Int) : Int := (l.map refWidth).sum
theorem refWidths_succ (l : List Int) (k : Nat) (hk : k < l.length) : refWidths (l.take (k + 1)) = refWidths (l.take k) + refWidth (l.getD k 0) := by
  unfold refWidths
  rw [List.take_succ_eq_append_getElem hk]
  rw [List.map_append, List.sum_append]
  simp only [List.map_cons, List.map_nil, List.sum_cons, List.sum_nil, List.getD, List.getElem?_eq_getElem hk, Option.getD_some, Int.add_zero]
end Go.Proofs.YtflmckoolagikaaDoor
end
section
namespace Go.Fw
/-- The first k letters of the first n are their last k. -/
def Bd (p : Nat → Int) (n k : Nat) : Prop := k ≤ n ∧ ∀ j, j < k → p j = p (n - k + j)
theorem Bd.zero (p : Nat → Int) (n : Nat) : Bd p n 0 := ⟨Nat.zero_le _, fun j hj => absurd hj (Nat.not_lt_zero _)⟩
theorem Bd.trans {p : Nat → Int} {n k j : Nat} (h : Bd p n k) (h' : Bd p k j) : Bd p n j := by
  obtain ⟨h1, h2⟩ := h
  obtain ⟨h3, h4⟩ := h'
  refine ⟨by omega, fun t ht => ?_⟩
  rw [h4 t ht, h2 (k - j + t) (by omega)]
  congr 1
  omega
theorem Bd.inner {p : Nat → Int} {n k j : Nat} (h : Bd p n k) (h' : Bd p n j) (hj : j ≤ k) : Bd p k j := by
  obtain ⟨h1, h2⟩ := h
  obtain ⟨h3, h4⟩ := h'
  refine ⟨hj, fun t ht => ?_⟩
  rw [h4 t ht, h2 (k - j + t) (by omega)]
  congr 1
  omega
theorem Bd.succ {p : Nat → Int} {n k : Nat} : Bd p (n + 1) (k + 1) ↔ Bd p n k ∧ p k = p n := by
  constructor
  · rintro ⟨h1, h2⟩
    refine ⟨⟨by omega, fun j hj => ?_⟩, ?_⟩
    · rw [h2 j (by omega)]; congr 1; omega
    · rw [h2 k (by omega)]; congr 1; omega
  · rintro ⟨⟨h1, h2⟩, h3⟩
    refine ⟨by omega, fun j hj => ?_⟩
    rcases Nat.lt_or_ge j k with h | h
    · rw [h2 j h]; congr 1; omega
    · obtain rfl : j = k := by omega
      rw [h3]; congr 1; omega
/-- The longest border that is shorter than the word. -/
def IsB (p : Nat → Int) (n k : Nat) : Prop := k < n ∧ Bd p n k ∧ ∀ j, j < n → Bd p n j → j ≤ k
theorem IsB.one (p : Nat → Int) : IsB p 1 0 := ⟨Nat.zero_lt_one, Bd.zero p 1, fun j hj _ => by omega⟩
/-- What holds on the way from n letters to n + 1. -/
def OnWay (p : Nat → Int) (n k : Nat) : Prop := k < n ∧ Bd p n k ∧ ∀ j, j < n → Bd p n j → p j = p n → j ≤ k
theorem OnWay.step {p : Nat → Int} {n k k' : Nat} (h : OnWay p n k) (hne : ¬ p n = p k) (hk : IsB p k k') : OnWay p n k' := by
  obtain ⟨h1, h2, h3⟩ := h
  obtain ⟨g1, g2, g3⟩ := hk
  refine ⟨by omega, h2.trans g2, fun j hj hb hp => ?_⟩
  have hle := h3 j hj hb hp
  have hlt : j < k := by
    rcases Nat.lt_or_ge j k with h | h
    · exact h
    · obtain rfl : j = k := by omega
      exact absurd hp.symm hne
  exact g3 j hlt (h2.inner hb hle)
theorem OnWay.no {p : Nat → Int} {n : Nat} (h : OnWay p n 0) (hne : ¬ p n = p 0) : IsB p (n + 1) 0 := by
  obtain ⟨h1, h2, h3⟩ := h
  refine ⟨by omega, Bd.zero _ _, fun j hj hb => ?_⟩
  cases j with
  | zero => omega
  | succ j =>
    obtain ⟨g1, g2⟩ := Bd.succ.1 hb
    have h0 := h3 j (by omega) g1 g2
    obtain rfl : j = 0 := by omega
    exact absurd g2.symm hne
end Go.Fw
namespace Go.Fw
/-- The first k letters of the word are the last k of the first i of the text. -/
def Mt (p t : Nat → Int) (i k : Nat) : Prop := k ≤ i ∧ ∀ j, j < k → p j = t (i - k + j)
theorem Mt.zero (p t : Nat → Int) (i : Nat) : Mt p t i 0 := ⟨Nat.zero_le _, fun j hj => absurd hj (Nat.not_lt_zero _)⟩
theorem Mt.trans {p t : Nat → Int} {i k j : Nat} (h : Mt p t i k) (h' : Bd p k j) : Mt p t i j := by
  obtain ⟨h1, h2⟩ := h
  obtain ⟨h3, h4⟩ := h'
  refine ⟨by omega, fun u hu => ?_⟩
  rw [h4 u hu, h2 (k - j + u) (by omega)]
  congr 1
  omega
theorem Mt.inner {p t : Nat → Int} {i k j : Nat} (h : Mt p t i k) (h' : Mt p t i j) (hj : j ≤ k) : Bd p k j := by
  obtain ⟨h1, h2⟩ := h
  obtain ⟨h3, h4⟩ := h'
  refine ⟨hj, fun u hu => ?_⟩
  rw [h4 u hu, h2 (k - j + u) (by omega)]
  congr 1
  omega
theorem Mt.succ {p t : Nat → Int} {i k : Nat} : Mt p t (i + 1) (k + 1) ↔ Mt p t i k ∧ p k = t i := by
  constructor
  · rintro ⟨h1, h2⟩
    refine ⟨⟨by omega, fun j hj => ?_⟩, ?_⟩
    · rw [h2 j (by omega)]; congr 1; omega
    · rw [h2 k (by omega)]; congr 1; omega
  · rintro ⟨⟨h1, h2⟩, h3⟩
    refine ⟨by omega, fun j hj => ?_⟩
    rcases Nat.lt_or_ge j k with h | h
    · rw [h2 j h]; congr 1; omega
    · obtain rfl : j = k := by omega
      rw [h3]; congr 1; omega
def IsM (p t : Nat → Int) (n i k : Nat) : Prop := k ≤ n ∧ Mt p t i k ∧ ∀ j, j ≤ n → Mt p t i j → j ≤ k
theorem IsM.none (p t : Nat → Int) (n : Nat) : IsM p t n 0 0 := ⟨Nat.zero_le _, Mt.zero _ _ _, fun j _ h => by have := h.1; omega⟩
def OnM (p t : Nat → Int) (n i k : Nat) : Prop := k ≤ n ∧ Mt p t i k ∧ ∀ j, j < n → Mt p t i j → p j = t i → j ≤ k
theorem OnM.step {p t : Nat → Int} {n i k k' : Nat} (h : OnM p t n i k) (hne : k = n ∨ ¬ t i = p k) (hk : IsB p k k') : OnM p t n i k' := by
  obtain ⟨h1, h2, h3⟩ := h
  obtain ⟨g1, g2, g3⟩ := hk
  refine ⟨by omega, h2.trans g2, fun j hj hm hp => ?_⟩
  have hle := h3 j hj hm hp
  have hlt : j < k := by
    rcases Nat.lt_or_ge j k with h | h
    · exact h
    · obtain rfl : j = k := by omega
      rcases hne with hne | hne
      · omega
      · exact absurd hp.symm hne
  exact g3 j hlt (h2.inner hm hle)
theorem OnM.no {p t : Nat → Int} {n i : Nat} (h : OnM p t n i 0) (hne : ¬ t i = p 0) : IsM p t n (i + 1) 0 := by
  obtain ⟨h1, h2, h3⟩ := h
  refine ⟨Nat.zero_le _, Mt.zero _ _ _, fun j hj hm => ?_⟩
  cases j with
  | zero => omega
  | succ j =>
    obtain ⟨g1, g2⟩ := Mt.succ.1 hm
    have h0 := h3 j (by omega) g1 g2
    obtain rfl : j = 0 := by omega
    exact absurd g2.symm hne
end Go.Fw
end
section
namespace Go.Proofs.YtflmckoolagikaaDoor
open Go.RowKit Go.Fw
def eqStrsTo (xs ys : List ByteArray) (k : Nat) : Prop := ∀ j, j < k → xs.getD j ByteArray.empty = ys.getD j ByteArray.empty
set_option maxRecDepth 100000 in
set_option maxHeartbeats 400000 in
theorem eqStrs_any (xs ys : List ByteArray) (a1 a2 : Option Addr) (n1 n2 c1 c2 : Nat) (w : World) (hn1 : n1 = xs.length) (hn2 : n2 = ys.length) (hm1 : xs.length ≤ maxLen) (hm2 : ys.length ≤ maxLen)
    (h1 : At w a1 (strs xs)) (h2 : At w a2 (strs ys)) :
    Calls Tryd.prog 66 #[.slice a1 n1 c1, .slice a2 n2 c2] w fun e w' => e = .returned (.bool (decide (xs = ys))) ∧ Below w.heap.size w w' := by
  have Hn1 := Lib.hid hn1
  have Hn2 := Lib.hid hn2
  rw [← hn1] at hm1
  rw [← hn2] at hm2
  unfold maxLen at hm1 hm2
  clear hn1 hn2
  by_cases hne : n1 = n2
  · subst hne
    go_enter Tryd.func66, Tryd.ntmps66
    go_wp2
    go_loopw [13] (fun i wr => ∃ k : Nat, k ≤ n1 ∧ i = .int .i64 k ∧ eqStrsTo xs ys k ∧ Below w.heap.size w wr) (fun i _ => n1 - (intOf i).toNat)
    case atStart => exact ⟨0, Nat.zero_le _, rfl, fun j hj => by omega, Below.refl _ _⟩
    case round =>
      obtain ⟨k, hk, rfl, hto, hbl⟩ := hrel
      by_cases hlt : k < n1
      · obtain ⟨b, o, ha, hb, hc⟩ := h1.str (i := k) (by rw [← Hn1.out]; exact hlt)
        obtain ⟨b', o', ha', hb', hc'⟩ := h2.str (i := k) (by rw [← Hn2.out]; exact hlt)
        rw [ha, ha']
        have hx := (hbl.cell (p := ⟨b, o + k, none⟩) hb).trans (hc k (by rw [← Hn1.out]; exact hlt))
        have hy := (hbl.cell (p := ⟨b', o' + k, none⟩) hb').trans (hc' k (by rw [← Hn2.out]; exact hlt))
        clear hc hc' ha ha'
        obtain ⟨x, hX⟩ : ∃ x, x = xs.getD k ByteArray.empty := ⟨_, rfl⟩
        obtain ⟨y, hY⟩ : ∃ y, y = ys.getD k ByteArray.empty := ⟨_, rfl⟩
        rw [← hX] at hx
        rw [← hY] at hy
        have HX := Lib.hid hX
        have HY := Lib.hid hY
        clear hX hY
        go_wp2
        go_quiet (fail)
        by_cases he : x = y
        · subst he
          rw [show (!x.toList == x.toList) = false from by rw [beq_self_eq_true]; rfl]
          go_wp2
          go_roundw
          case rel =>
            refine ⟨k + 1, by omega, by go_num, fun j hj => ?_, hbl.drewN _⟩
            rcases Nat.lt_or_ge j k with h | h
            · exact hto j h
            · obtain rfl : j = k := by omega
              rw [← HX.out, ← HY.out]
          case measure => simp [intOf]; omega
        · have hfin : decide (xs = ys) = false := by
            rw [decide_eq_false_iff_not]; rintro rfl; exact he (HX.out.trans HY.out.symm)
          have Hfin := Lib.hid hfin
          clear hfin
          rw [show (!x.toList == y.toList) = true from by rw [toList_ne he]; rfl]
          go_wp2
          go_ret
          exact ⟨ret_bool Hfin.out.symm, hbl.drewN _⟩
      · obtain rfl : k = n1 := by omega
        have hfin : decide (xs = ys) = true := by
          rw [decide_eq_true_iff]
          refine List.ext_getElem (Hn1.out.symm.trans Hn2.out) fun j hj hj' => ?_
          have := hto j (by rw [Hn1.out]; exact hj)
          simpa [List.getD, List.getElem?_eq_getElem hj, List.getElem?_eq_getElem hj'] using this
        have Hfin := Lib.hid hfin
        clear hfin
        go_wp2
        go_ret
        exact ⟨ret_bool Hfin.out.symm, hbl⟩
  · have hfin : decide (xs = ys) = false := by
      rw [decide_eq_false_iff_not]; rintro rfl; exact hne (Hn1.out.trans Hn2.out.symm)
    have Hfin := Lib.hid hfin
    clear hfin
    go_enter Tryd.func66, Tryd.ntmps66
    go_wp2
    all_goals first | (exfalso; omega) | (go_ret; exact ⟨ret_bool Hfin.out.symm, Below.refl _ _⟩)
def idxStrsNo (xs : List ByteArray) (y : ByteArray) (k : Nat) : Prop := ∀ j, j < k → ¬ y = xs.getD j ByteArray.empty
def idxStrsIn (xs : List ByteArray) (y : ByteArray) : Bool := xs.any (fun x => decide (x = y))
def idxStrsAt (xs : List ByteArray) (y : ByteArray) : Int := if idxStrsIn xs y then (xs.findIdx (fun x => decide (x = y)) : Nat) else -1
theorem idxStrsIn_iff (xs : List ByteArray) (y : ByteArray) : idxStrsIn xs y = true ↔ y ∈ xs := by
  unfold idxStrsIn
  rw [List.any_eq_true]
  constructor
  · rintro ⟨x, hx, e⟩
    rw [← of_decide_eq_true e]; exact hx
  · intro h
    exact ⟨y, h, by simp⟩
theorem idxStrsAt_yes (xs : List ByteArray) (y : ByteArray) (k : Nat) (h : idxStrsNo xs y k) (he : y = xs.getD k ByteArray.empty) (hk : k < xs.length) : idxStrsAt xs y = k := by
  have e : xs.getD k ByteArray.empty = xs[k] := by simp [List.getD, List.getElem?_eq_getElem hk]
  unfold idxStrsAt
  rw [if_pos ((idxStrsIn_iff xs y).2 (by rw [he, e]; exact List.getElem_mem hk))]
  congr 1
  rw [List.findIdx_eq hk]
  refine ⟨by rw [he, e]; simp, fun j hj => ?_⟩
  have := h j hj
  simp only [List.getD, List.getElem?_eq_getElem (show j < xs.length by omega), Option.getD_some] at this
  simpa using fun h' => this h'.symm
theorem idxStrsAt_no (xs : List ByteArray) (y : ByteArray) (h : idxStrsNo xs y xs.length) : idxStrsAt xs y = -1 := by
  unfold idxStrsAt
  rw [if_neg]
  intro hm
  obtain ⟨j, hj, e⟩ := List.getElem_of_mem ((idxStrsIn_iff xs y).1 hm)
  refine h j hj ?_
  simp [List.getD, List.getElem?_eq_getElem hj, e]
set_option maxRecDepth 100000 in
set_option maxHeartbeats 400000 in
theorem idxStrs_any (xs : List ByteArray) (y : ByteArray) (a1 : Option Addr) (n1 c1 : Nat) (w : World) (hn1 : n1 = xs.length) (hm1 : xs.length ≤ maxLen) (h1 : At w a1 (strs xs)) :
    Calls Tryd.prog 115 #[.slice a1 n1 c1, .string y] w fun e w' => e = .returned (.int .i64 (idxStrsAt xs y)) ∧ Below w.heap.size w w' := by
  have Hn1 := Lib.hid hn1
  rw [← hn1] at hm1
  unfold maxLen at hm1
  clear hn1
  go_enter Tryd.func115, Tryd.ntmps115
  go_wp2
  go_loop [8] (fun i => ∃ k : Nat, k ≤ n1 ∧ i = .int .i64 k ∧ idxStrsNo xs y k) (fun i => n1 - (intOf i).toNat)
  case atStart => exact ⟨0, Nat.zero_le _, rfl, fun j hj => by omega⟩
  case round =>
    obtain ⟨k, hk, rfl, hno⟩ := hrel
    by_cases hlt : k < n1
    · obtain ⟨b, o, ha, hb, hc⟩ := h1.str (i := k) (by rw [← Hn1.out]; exact hlt)
      rw [ha]
      have hx := hc k (by rw [← Hn1.out]; exact hlt)
      clear hc ha
      obtain ⟨x, hX⟩ : ∃ x, x = xs.getD k ByteArray.empty := ⟨_, rfl⟩
      rw [← hX] at hx
      have HX := Lib.hid hX
      clear hX
      by_cases he : y = x
      · have Hfin := Lib.hid (idxStrsAt_yes xs y k hno (he.trans HX.out) (by rw [← Hn1.out]; exact hlt))
        subst he
        have hb0 : (y.toList == y.toList) = true := beq_self_eq_true _
        go_wp2
        go_ret
        exact ⟨ret_int Hfin.out.symm, Below.refl _ _⟩
      · have hno' : idxStrsNo xs y (k + 1) := fun j hj => by
          rcases Nat.lt_or_ge j k with h | h
          · exact hno j h
          · obtain rfl : j = k := by omega
            rw [← HX.out]; exact he
        have hb1 : (y.toList == x.toList) = false := toList_ne he
        go_wp2
        go_round
        case rel => exact ⟨k + 1, by omega, by go_num, hno'⟩
        case measure => simp [intOf]; omega
    · obtain rfl : k = n1 := by omega
      have Hfin := Lib.hid (idxStrsAt_no xs y (by rw [← Hn1.out]; exact hno))
      go_wp2
      go_ret
      exact ⟨ret_int Hfin.out.symm, Below.refl _ _⟩
set_option maxRecDepth 100000 in
theorem hasStr_any (xs : List ByteArray) (y : ByteArray) (a1 : Option Addr) (n1 c1 : Nat) (w : World) (hn1 : n1 = xs.length) (hm1 : xs.length ≤ maxLen) (h1 : At w a1 (strs xs)) :
    Calls Tryd.prog 112 #[.slice a1 n1 c1, .string y] w fun e w' => e = .returned (.bool (idxStrsIn xs y)) ∧ Below w.heap.size w w' := by
  have hge : decide (0 ≤ idxStrsAt xs y) = idxStrsIn xs y := by
    unfold idxStrsAt
    cases h : idxStrsIn xs y <;> simp
  have Hge := Lib.hid hge
  have Hn := Lib.hid hn1
  clear hge hn1
  go_enter Tryd.func112, Tryd.ntmps112
  go_wp2_with fail
  refine (idxStrs_any xs y a1 n1 c1 _ Hn.out hm1 h1).mono ?_
  rintro e w' ⟨rfl, hb⟩
  go_wp2
  go_ret
  exact ⟨ret_bool Hge.out, hb⟩
end Go.Proofs.YtflmckoolagikaaDoor
end
section
namespace Go.Proofs.YtflmckoolagikaaDoor
open Go Go.RowKit Go.Fw Go.Sx
set_option maxRecDepth 100000
set_option maxHeartbeats 1000000
attribute [local irreducible] SW SL SQ AtQ SV SC BB LD PK Yields SO SOT SOA SY
theorem refWidths_mono (l : List Int) (i j : Nat) (h : i ≤ j) (hj : j ≤ l.length) : refWidths (l.take i) ≤ refWidths (l.take j) := by
  induction j with
  | zero => obtain rfl : i = 0 := by omega
            exact Int.le_refl _
  | succ j ih =>
    rcases Nat.eq_or_lt_of_le h with rfl | hlt
    · exact Int.le_refl _
    · have h1 := ih (by omega) (by omega)
      rw [refWidths_succ l j (by omega)]
      have := refWidth_bd (l.getD j 0)
      omega
/-- How many at most are no wider than w. -/
def IsCut (l : List Int) (w : Int) (k : Nat) : Prop := k ≤ l.length ∧ refWidths (l.take k) ≤ w ∧ ∀ j, k < j → j ≤ l.length → w < refWidths (l.take j)
theorem IsCut.at {l : List Int} {w : Int} {k i : Nat} (h : IsCut l w k) (hi : i < l.length) (h1 : refWidths (l.take i) ≤ w) (h2 : w < refWidths (l.take i) + refWidth (l.getD i 0)) : i = k := by
  obtain ⟨g1, g2, g3⟩ := h
  rw [← refWidths_succ l i hi] at h2
  rcases Nat.lt_trichotomy i k with hlt | rfl | hlt
  · have := refWidths_mono l (i + 1) k hlt g1
    omega
  · rfl
  · have := g3 i hlt (by omega)
    omega
theorem IsCut.last {l : List Int} {w : Int} {k : Nat} (h : IsCut l w k) (h1 : refWidths (l.take l.length) ≤ w) : l.length = k := by
  obtain ⟨g1, g2, g3⟩ := h
  rcases Nat.eq_or_lt_of_le g1 with h | hlt
  · exact h.symm
  · have := g3 l.length hlt (Nat.le_refl _)
    omega
end Go.Proofs.YtflmckoolagikaaDoor
end
section
namespace Go.Proofs.YtflmckoolagikaaDoor
open Go Go.RowKit Go.Fw Go.Sx
set_option maxRecDepth 100000
attribute [local irreducible] SW SL SQ AtQ SV SC BB LD PK Yields
def colorB (x : Int) : Bool := decide ((0 ≤ x ∧ x ≤ 256) ∨ (16777216 ≤ x ∧ x < 33554432))
def penB (fl fo ba : Int) : Bool := decide (0 ≤ fl ∧ fl ≤ 255) && (colorB fo && colorB ba)
abbrev penV (fl fo ba : Int) : Value := .agg [.int .i64 fl, .int .i64 fo, .int .i64 ba].toArray
theorem color_sv (G : Ctx) (H : List Ent) (x : Int) : SV Tryd.prog G 177 [.int .i64 x] H (.bool (colorB x)) := by
  refine sv_enter1 Tryd.func177 rfl rfl rfl rfl rfl ?_
  repeat' (first | (apply g_sl; first | (apply ks_nil; refine sl_nil ?_) | (apply ks_move; refine s_move rfl rfl ?_) | (apply ks_bin; refine s_bin rfl rfl rfl ?_; first | fail | (first | refine bb_of rfl ?_)) | (apply ks_asgn; refine s_asgn rfl rfl ?_) | (apply ks_pick; refine s_pick rfl rfl ?_; first | (apply kp_t; refine pk_t rfl ?_) | (apply kp_f; refine pk_f rfl ?_) | refine pk_s rfl rfl ?_) | (apply ks_guard; first | (refine sl_gd rfl rfl rfl rfl ?_; first | (apply gd_t) | (apply gd_ft) | (apply gd_tf) | (apply gd_dec_t <;> intro hq <;> (try (exfalso; omega))) | (apply gd_dec_f <;> intro hq <;> (try (exfalso; omega))) | (apply gd_beq_t <;> intro hq <;> (try (exfalso; omega))) | (apply gd_beq_f <;> intro hq <;> (try (exfalso; omega))) | (apply gd_bne_t <;> intro hq <;> (try (exfalso; omega))) | (apply gd_bne_f <;> intro hq <;> (try (exfalso; omega))) | (apply gd_not_t <;> intro hq) | (apply gd_not_f <;> intro hq) | (apply gd_raw_t <;> intro hq) | (apply gd_raw_f <;> intro hq)) | refine sl_skip_u rfl rfl rfl rfl rfl rfl ?_) | fail) | (apply sw_seq) | (apply at_srd) | (apply sw_skip) | (apply sw_ret) | (apply sw_exit) | (apply sw_block) | (apply sw_region) | (refine sw_cd rfl ?_; first | (apply gd_t) | (apply gd_ft) | (apply gd_tf) | (apply gd_dec_t <;> intro hq <;> (try (exfalso; omega))) | (apply gd_dec_f <;> intro hq <;> (try (exfalso; omega))) | (apply gd_beq_t <;> intro hq <;> (try (exfalso; omega))) | (apply gd_beq_f <;> intro hq <;> (try (exfalso; omega))) | (apply gd_bne_t <;> intro hq <;> (try (exfalso; omega))) | (apply gd_bne_f <;> intro hq <;> (try (exfalso; omega))) | (apply gd_not_t <;> intro hq) | (apply gd_not_f <;> intro hq) | (apply gd_raw_t <;> intro hq) | (apply gd_raw_f <;> intro hq)) | (apply at_thn) | (apply at_thn_ret) | (apply at_thn_exit) | (apply at_inb) | (apply at_inb_ret) | (apply at_inb_exit) | refine at_inb_pass rfl ?_ | refine c_drawn (by kernel_rfl) ?_)
  all_goals (refine e_sv (by first | exact .inl rfl | exact .inr rfl) rfl (by repeat (first | exact List.Sublist.refl _ | exact List.nil_sublist _ | refine List.Sublist.cons _ ?_)) ?_; first | exact rb_t (by omega) | exact rb_f (by omega) | exact rb_d (by omega) | exact rb_n (by omega))
attribute [irreducible] colorB
theorem penCheck_sv (G : Ctx) (H : List Ent) (fl fo ba : Int) : SV Tryd.prog G 153 [penV fl fo ba] H (.int .i64 (if penB fl fo ba = true then 0 else 4)) := by
  refine sv_enter1 Tryd.func153 rfl rfl rfl rfl rfl ?_
  repeat' (first | (apply g_sl; first | (apply ks_nil; refine sl_nil ?_) | (apply ks_move; refine s_move rfl rfl ?_) | (apply ks_bin; refine s_bin rfl rfl rfl ?_; first | fail | (first | refine bb_of rfl ?_)) | (apply ks_load; first | (refine s_load rfl rfl ?_; first | refine ld_cell rfl ?_ | refine ld_whole rfl ?_ | refine ld_elem rfl ?_ | refine ld_part rfl rfl ?_) | fail) | (apply ks_asgn; refine s_asgn rfl rfl ?_) | (apply ks_pick; refine s_pick rfl rfl ?_; first | (apply kp_t; refine pk_t rfl ?_) | (apply kp_f; refine pk_f rfl ?_) | refine pk_s rfl rfl ?_) | (apply ks_field; first | refine s_field (c_field0 rfl rfl) rfl ?_ | refine s_field (c_field rfl rfl) rfl ?_) | (apply ks_un; refine s_un (y_un rfl rfl rfl) rfl ?_) | (apply ks_fn; first | refine c_callv rfl rfl rfl (color_sv _ _ _) rfl rfl ?_) | (apply ks_box; refine c_box rfl rfl rfl rfl rfl rfl (fun _ => ?_)) | (apply ks_guard; first | (refine sl_gd rfl rfl rfl rfl ?_; first | (apply gd_t) | (apply gd_ft) | (apply gd_tf) | (apply gd_dec_t <;> intro hq <;> (try (exfalso; omega))) | (apply gd_dec_f <;> intro hq <;> (try (exfalso; omega))) | (apply gd_beq_t <;> intro hq <;> (try (exfalso; omega))) | (apply gd_beq_f <;> intro hq <;> (try (exfalso; omega))) | (apply gd_bne_t <;> intro hq <;> (try (exfalso; omega))) | (apply gd_bne_f <;> intro hq <;> (try (exfalso; omega))) | (apply gd_not_t <;> intro hq) | (apply gd_not_f <;> intro hq) | (apply gd_raw_t <;> intro hq) | (apply gd_raw_f <;> intro hq)) | refine sl_skip_u rfl rfl rfl rfl rfl rfl ?_) | fail) | (apply sw_seq) | (apply at_srd) | (apply sw_skip) | (apply sw_ret) | (apply sw_exit) | (apply sw_block) | (apply sw_region) | (refine sw_cd rfl ?_; first | (apply gd_t) | (apply gd_ft) | (apply gd_tf) | (apply gd_dec_t <;> intro hq <;> (try (exfalso; omega))) | (apply gd_dec_f <;> intro hq <;> (try (exfalso; omega))) | (apply gd_beq_t <;> intro hq <;> (try (exfalso; omega))) | (apply gd_beq_f <;> intro hq <;> (try (exfalso; omega))) | (apply gd_bne_t <;> intro hq <;> (try (exfalso; omega))) | (apply gd_bne_f <;> intro hq <;> (try (exfalso; omega))) | (apply gd_not_t <;> intro hq) | (apply gd_not_f <;> intro hq) | (apply gd_raw_t <;> intro hq) | (apply gd_raw_f <;> intro hq)) | (apply at_thn) | (apply at_thn_ret) | (apply at_thn_exit) | (apply at_inb) | (apply at_inb_ret) | (apply at_inb_exit) | refine at_inb_pass rfl ?_ | refine c_drawn (by kernel_rfl) ?_)
  all_goals (refine e_sv (by first | exact .inl rfl | exact .inr rfl) rfl (by repeat (first | exact List.Sublist.refl _ | exact List.nil_sublist _ | refine List.Sublist.cons _ ?_)) ?_; first | exact ri_t (by simp [penB, *]; omega) rfl | exact ri_f (by simp [penB, *]; try omega) rfl)
def betB (x lo hi : Int) : Bool := decide (lo ≤ x ∧ x ≤ hi)
theorem between_sv (G : Ctx) (H : List Ent) (x lo hi : Int) : SV Tryd.prog G 26 [.int .i64 x, .int .i64 lo, .int .i64 hi] H (.bool (betB x lo hi)) := by
  refine sv_enter3 Tryd.func26 rfl rfl rfl rfl rfl ?_
  repeat' (first | (apply g_sl; first | (apply ks_nil; refine sl_nil ?_) | (apply ks_move; refine s_move rfl rfl ?_) | (apply ks_bin; refine s_bin rfl rfl rfl ?_; first | fail | (first | refine bb_of rfl ?_)) | (apply ks_asgn; refine s_asgn rfl rfl ?_) | (apply ks_pick; refine s_pick rfl rfl ?_; first | (apply kp_t; refine pk_t rfl ?_) | (apply kp_f; refine pk_f rfl ?_) | refine pk_s rfl rfl ?_) | (apply ks_guard; first | (refine sl_gd rfl rfl rfl rfl ?_; first | (apply gd_t) | (apply gd_ft) | (apply gd_tf) | (apply gd_dec_t <;> intro hq <;> (try (exfalso; omega))) | (apply gd_dec_f <;> intro hq <;> (try (exfalso; omega))) | (apply gd_beq_t <;> intro hq <;> (try (exfalso; omega))) | (apply gd_beq_f <;> intro hq <;> (try (exfalso; omega))) | (apply gd_bne_t <;> intro hq <;> (try (exfalso; omega))) | (apply gd_bne_f <;> intro hq <;> (try (exfalso; omega))) | (apply gd_not_t <;> intro hq) | (apply gd_not_f <;> intro hq) | (apply gd_raw_t <;> intro hq) | (apply gd_raw_f <;> intro hq)) | refine sl_skip_u rfl rfl rfl rfl rfl rfl ?_) | fail) | (apply sw_seq) | (apply at_srd) | (apply sw_skip) | (apply sw_ret) | (apply sw_exit) | (apply sw_block) | (apply sw_region) | (refine sw_cd rfl ?_; first | (apply gd_t) | (apply gd_ft) | (apply gd_tf) | (apply gd_dec_t <;> intro hq <;> (try (exfalso; omega))) | (apply gd_dec_f <;> intro hq <;> (try (exfalso; omega))) | (apply gd_beq_t <;> intro hq <;> (try (exfalso; omega))) | (apply gd_beq_f <;> intro hq <;> (try (exfalso; omega))) | (apply gd_bne_t <;> intro hq <;> (try (exfalso; omega))) | (apply gd_bne_f <;> intro hq <;> (try (exfalso; omega))) | (apply gd_not_t <;> intro hq) | (apply gd_not_f <;> intro hq) | (apply gd_raw_t <;> intro hq) | (apply gd_raw_f <;> intro hq)) | (apply at_thn) | (apply at_thn_ret) | (apply at_thn_exit) | (apply at_inb) | (apply at_inb_ret) | (apply at_inb_exit) | refine at_inb_pass rfl ?_ | refine c_drawn (by kernel_rfl) ?_)
  all_goals (refine e_sv (by first | exact .inl rfl | exact .inr rfl) rfl (by repeat (first | exact List.Sublist.refl _ | exact List.nil_sublist _ | refine List.Sublist.cons _ ?_)) ?_; first | exact rb_t (by omega) | exact rb_f (by omega) | exact rb_d (by omega) | exact rb_n (by omega))
attribute [irreducible] betB
end Go.Proofs.YtflmckoolagikaaDoor
end
section
namespace Go.Fw
open Go Go.RowKit Go.Sx
/-- A cell: its rune, and its pen's flags, foreground and background. -/
abbrev Qd := Int × Int × Int × Int
def qd (q : Qd) : List Value := [.int .i64 q.1, .int .i64 q.2.1, .int .i64 q.2.2.1, .int .i64 q.2.2.2]
def qds (C : List Qd) : List Value := C.flatMap qd
abbrev qz : Qd := (0, 0, 0, 0)
theorem qd_len (q : Qd) : (qd q).length = 4 := rfl
theorem qds_cons (q : Qd) (C : List Qd) : qds (q :: C) = qd q ++ qds C := by simp [qds]
theorem qds_app (C D : List Qd) : qds (C ++ D) = qds C ++ qds D := by simp [qds]
theorem qds_len : ∀ C : List Qd, (qds C).length = C.length * 4
  | [] => rfl
  | q :: C => by rw [qds_cons, List.length_append, qds_len C, qd_len, List.length_cons]; omega
theorem qds_drop : ∀ (k : Nat) (C : List Qd), (qds C).drop (k * 4) = qds (C.drop k)
  | 0, C => by simp
  | k + 1, [] => by simp [qds]
  | k + 1, q :: C => by
    rw [qds_cons, show (k + 1) * 4 = (qd q).length + k * 4 from by rw [qd_len]; omega, List.drop_length_add_append, qds_drop k C]
    rfl
theorem qds_take : ∀ (k : Nat) (C : List Qd), (qds C).take (k * 4) = qds (C.take k)
  | 0, C => by simp [qds]
  | k + 1, [] => by simp [qds]
  | k + 1, q :: C => by
    rw [qds_cons, show (k + 1) * 4 = (qd q).length + k * 4 from by rw [qd_len]; omega, List.take_length_add_append, qds_take k C, List.take_succ_cons, qds_cons]
theorem getD_cons_drop {C : List Qd} {k : Nat} (hk : k < C.length) : C.drop k = C.getD k qz :: C.drop (k + 1) := by
  rw [List.drop_eq_getElem_cons hk, List.getD_eq_getElem?_getD, List.getElem?_eq_getElem hk]
  rfl
theorem qds_elem {C : List Qd} {k : Nat} (hk : k < C.length) : take? ((qds C).drop (k * 4)) 4 = some (qd (C.getD k qz)) := by
  rw [qds_drop, getD_cons_drop hk, qds_cons]
  simp [take?, qd]
theorem qds_over {C : List Qd} {k : Nat} (q : Qd) (hk : k < C.length) : over (qds C) (k * 4) (qd q) = qds (C.set k q) := by
  unfold over
  rw [qds_take, qd_len, show k * 4 + 4 = (k + 1) * 4 from by omega, qds_drop, List.set_eq_take_append_cons_drop, if_pos hk, qds_app, qds_cons, List.append_assoc]
theorem qds_one (C : List Qd) : (qds C).all (·.oneCell') = true := by
  unfold qds
  rw [List.all_flatMap]
  exact List.all_eq_true.2 fun _ _ => rfl
end Go.Fw
namespace Go.Proofs.YtflmckoolagikaaDoor
open Go Go.RowKit Go.Fw Go.Sx
set_option maxRecDepth 100000
set_option maxHeartbeats 1000000
attribute [local irreducible] SW SL SQ AtQ SV SC BB LD PK Yields SO SOT SOA SY
def sizeE (w h : Int) : Int := if 1 ≤ w ∧ w ≤ 160 ∧ 1 ≤ h ∧ h ≤ 60 then 0 else 1
theorem gridSize_sv (G : Ctx) (H : List Ent) (w h : Int) : SV Tryd.prog G 152 [.int .i64 w, .int .i64 h] H (.int .i64 (sizeE w h)) := by
  unfold sizeE
  refine sv_enter2 Tryd.func152 rfl rfl rfl rfl rfl ?_
  repeat' (first | (apply g_sl; first | (apply ks_nil; refine sl_nil ?_) | (apply ks_move; refine s_move rfl rfl ?_) | (apply ks_bin; refine s_bin rfl rfl rfl ?_; first | fail | (first | refine bb_of rfl ?_)) | (apply ks_asgn; refine s_asgn rfl rfl ?_) | (apply ks_pick; refine s_pick rfl rfl ?_; first | (apply kp_t; refine pk_t rfl ?_) | (apply kp_f; refine pk_f rfl ?_) | refine pk_s rfl rfl ?_) | (apply ks_guard; first | (refine sl_gd rfl rfl rfl rfl ?_; first | (apply gd_t) | (apply gd_ft) | (apply gd_tf) | (apply gd_dec_t <;> intro hq <;> (try (exfalso; omega))) | (apply gd_dec_f <;> intro hq <;> (try (exfalso; omega))) | (apply gd_beq_t <;> intro hq <;> (try (exfalso; omega))) | (apply gd_beq_f <;> intro hq <;> (try (exfalso; omega))) | (apply gd_bne_t <;> intro hq <;> (try (exfalso; omega))) | (apply gd_bne_f <;> intro hq <;> (try (exfalso; omega))) | (apply gd_not_t <;> intro hq) | (apply gd_not_f <;> intro hq) | (apply gd_raw_t <;> intro hq) | (apply gd_raw_f <;> intro hq)) | refine sl_skip_u rfl rfl rfl rfl rfl rfl ?_) | fail) | (apply sw_seq) | (apply at_srd) | (apply sw_skip) | (apply sw_ret) | (apply sw_exit) | (apply sw_block) | (apply sw_region) | (refine sw_cd rfl ?_; first | (apply gd_t) | (apply gd_ft) | (apply gd_tf) | (apply gd_dec_t <;> intro hq <;> (try (exfalso; omega))) | (apply gd_dec_f <;> intro hq <;> (try (exfalso; omega))) | (apply gd_beq_t <;> intro hq <;> (try (exfalso; omega))) | (apply gd_beq_f <;> intro hq <;> (try (exfalso; omega))) | (apply gd_bne_t <;> intro hq <;> (try (exfalso; omega))) | (apply gd_bne_f <;> intro hq <;> (try (exfalso; omega))) | (apply gd_not_t <;> intro hq) | (apply gd_not_f <;> intro hq) | (apply gd_raw_t <;> intro hq) | (apply gd_raw_f <;> intro hq)) | (apply at_thn) | (apply at_thn_ret) | (apply at_thn_exit) | (apply at_inb) | (apply at_inb_ret) | (apply at_inb_exit) | refine at_inb_pass rfl ?_ | refine c_drawn (by kernel_rfl) ?_)
  all_goals (refine e_sv (by first | exact .inl rfl | exact .inr rfl) rfl (by repeat (first | exact List.Sublist.refl _ | exact List.nil_sublist _ | refine List.Sublist.cons _ ?_)) ?_; first | exact ri_t (by omega) rfl | exact ri_f (by omega) rfl)
theorem penEqvD (d : Nat) (x y z x' y' z' : Int) (b : Bool) (h : b = decide ((x, y, z) = (x', y', z'))) : EqVal Tryd.prog (d + 1 + 1) 61 (.agg [.int .i64 x, .int .i64 y, .int .i64 z].toArray) (.agg [.int .i64 x', .int .i64 y', .int .i64 z'].toArray) b := by
  have hfs : Tryd.prog.fieldsOf 61 = (match Tryd.prog.underlying 61 with | some (.struct fs) => fs | _ => #[]) := rfl
  refine eqval_struct (d := d + 1) (by rw [hfs, Tryd.underlying61]) (by kernel_rfl) ?_
  rw [hfs, Tryd.underlying61]
  have ne : ∀ a b : Int, ¬ a = b → EqVal Tryd.prog (d + 1) 3 (.int .i64 a) (.int .i64 b) false := fun a b hab => by
    have := eqval_int (P := Tryd.prog) (t := 3) (d := d) (k := .i64) a b
    rwa [show (a == b) = false from by simpa using hab] at this
  by_cases hx : x = x'
  · subst hx
    refine .eq (by decide) (u := .int .i64 x) (v := .int .i64 x) (part_one rfl) (part_one rfl) (eqself_int _) ?_
    by_cases hy : y = y'
    · subst hy
      refine .eq (by decide) (u := .int .i64 y) (v := .int .i64 y) (part_one rfl) (part_one rfl) (eqself_int _) ?_
      by_cases hz : z = z'
      · subst hz
        rw [h, decide_eq_true rfl]
        exact .eq (by decide) (u := .int .i64 z) (v := .int .i64 z) (part_one rfl) (part_one rfl) (eqself_int _) .nil
      · rw [h, decide_eq_false (by simp [hz])]
        exact .ne (by decide) (u := .int .i64 z) (v := .int .i64 z') (part_one rfl) (part_one rfl) (ne _ _ hz)
    · rw [h, decide_eq_false (by simp [hy])]
      exact .ne (by decide) (u := .int .i64 y) (v := .int .i64 y') (part_one rfl) (part_one rfl) (ne _ _ hy)
  · rw [h, decide_eq_false (by simp [hx])]
    exact .ne (by decide) (u := .int .i64 x) (v := .int .i64 x') (part_one rfl) (part_one rfl) (ne _ _ hx)
theorem penEqv9 (x y z x' y' z' : Int) (b : Bool) (h : b = decide ((x, y, z) = (x', y', z'))) : EqVal Tryd.prog 9999 61 (.agg [.int .i64 x, .int .i64 y, .int .i64 z].toArray) (.agg [.int .i64 x', .int .i64 y', .int .i64 z'].toArray) b := penEqvD 9997 x y z x' y' z' b h
end Go.Proofs.YtflmckoolagikaaDoor
namespace Go.Proofs.YtflmckoolagikaaDoor
open Go Go.RowKit Go.Fw Go.Sx
set_option maxRecDepth 100000
set_option maxHeartbeats 1000000
attribute [local irreducible] SW SL SQ AtQ SV SC BB LD PK Yields SO SOT SOA SY
theorem cloneQ_sc (G : Ctx) (H : List Ent) (C : List Qd) {vs : List Value} (a : Option Addr) (n c : Nat) [h1 : RdC G H a vs] (hv : vs = qds C) (hn : n = C.length) (hm : n ≤ 100000) : SC Tryd.prog G 155 [.slice a n c] H fun v H' => ∃ a' c', v = .slice a' n c' ∧ H' = .own 170 4 a' n c' (qds C) :: H := by
  subst hv
  have hlx : (qds C).length = n * 4 := by rw [qds_len, hn]
  have hone := qds_one C
  refine sc_here (callee_of Tryd.func155 rfl rfl) fun w0 hw0 => ?_
  cases a with
  | none =>
    have h0 := At.none_nil (h1.here w0 hw0)
    have hl0 : C.length = 0 := by
      have := congrArg List.length h0
      rw [qds_len, List.length_nil] at this
      omega
    obtain rfl : C = [] := List.eq_nil_of_length_eq_zero hl0
    obtain rfl : n = 0 := hn
    clear h0 hlx hone
    refine sc_enter1 Tryd.func155 rfl rfl rfl rfl rfl ?_
    repeat' (first | (apply g_sl; first | (apply ks_nil; refine sl_nil ?_) | (apply ks_move; refine s_move rfl rfl ?_) | (apply ks_bin; refine s_bin rfl rfl rfl ?_; first | first | refine bb_enil ?_ | (first | refine bb_of rfl ?_)) | (apply ks_asgn; refine s_asgn rfl rfl ?_) | (apply ks_bi; first | first | refine bb_enil ?_ | refine s_call (c_len rfl rfl) rfl ?_ | refine s_call (c_len_str rfl rfl) rfl ?_ | refine s_call (c_bi rfl rfl rfl rfl) rfl ?_ | refine c_append rfl rfl rfl rfl (by first | rfl | simp [ints]) (by first | rfl | exact ints_one _ | exact octs_one _ | exact strs_one _) (by omega) rfl rfl (fun _ _ => ?_) | refine c_append_nil rfl rfl rfl rfl (by first | rfl | simp [ints]) (by first | rfl | exact ints_one _ | exact octs_one _ | exact strs_one _) (by omega) rfl rfl (fun _ _ => ?_)) | (apply ks_bs; first | refine c_buildSlice rfl rfl rfl rfl rfl rfl rfl rfl rfl rfl (fun _ => ?_) | first | refine bb_enil ?_) | first | refine bb_enil ?_) | (apply sw_seq) | (apply at_srd) | (apply sw_skip) | (apply sw_ret) | (apply sw_exit) | (apply sw_block) | (apply sw_region) | (refine sw_cd rfl ?_; first | (apply gd_t) | (apply gd_ft) | (apply gd_tf) | (apply gd_dec_t <;> intro hq <;> (try (exfalso; omega))) | (apply gd_dec_f <;> intro hq <;> (try (exfalso; omega))) | (apply gd_beq_t <;> intro hq <;> (try (exfalso; omega))) | (apply gd_beq_f <;> intro hq <;> (try (exfalso; omega))) | (apply gd_bne_t <;> intro hq <;> (try (exfalso; omega))) | (apply gd_bne_f <;> intro hq <;> (try (exfalso; omega))) | (apply gd_not_t <;> intro hq) | (apply gd_not_f <;> intro hq) | (apply gd_raw_t <;> intro hq) | (apply gd_raw_f <;> intro hq)) | (apply at_thn) | (apply at_thn_ret) | (apply at_thn_exit) | (apply at_inb) | (apply at_inb_ret) | (apply at_inb_exit) | refine at_inb_pass rfl ?_ | refine c_drawn (by kernel_rfl) ?_)
    · exact e_scf (.own 170 4 none 0 0 [] :: H) (.inr rfl) rfl (fun _ hw => hw.nilrow _ _) ⟨_, _, rfl, rfl⟩
  | some a =>
    clear hn
    refine sc_enter1 Tryd.func155 rfl rfl rfl rfl rfl ?_
    repeat' (first | (apply g_sl; first | (apply ks_nil; refine sl_nil ?_) | (apply ks_move; refine s_move rfl rfl ?_) | (apply ks_bin; refine s_bin rfl rfl rfl ?_; first | first | refine bb_enil ?_ | (refine c_bsl0 rfl rfl rfl rfl (fun _ => ?_)) | (refine c_append rfl rfl rfl rfl hlx hone (by omega) rfl rfl (fun _ _ => ?_)) | (first | refine bb_of rfl ?_)) | (apply ks_asgn; refine s_asgn rfl rfl ?_) | (apply ks_bi; first | first | refine bb_enil ?_ | (refine c_bsl0 rfl rfl rfl rfl (fun _ => ?_)) | (refine c_append rfl rfl rfl rfl hlx hone (by omega) rfl rfl (fun _ _ => ?_)) | refine s_call (c_len rfl rfl) rfl ?_ | refine s_call (c_len_str rfl rfl) rfl ?_ | refine s_call (c_bi rfl rfl rfl rfl) rfl ?_ | refine c_append rfl rfl rfl rfl (by first | rfl | simp [ints]) (by first | rfl | exact ints_one _ | exact octs_one _ | exact strs_one _) (by omega) rfl rfl (fun _ _ => ?_) | refine c_append_nil rfl rfl rfl rfl (by first | rfl | simp [ints]) (by first | rfl | exact ints_one _ | exact octs_one _ | exact strs_one _) (by omega) rfl rfl (fun _ _ => ?_)) | (apply ks_bs; first | refine c_buildSlice rfl rfl rfl rfl rfl rfl rfl rfl rfl rfl (fun _ => ?_) | first | refine bb_enil ?_ | (refine c_bsl0 rfl rfl rfl rfl (fun _ => ?_)) | (refine c_append rfl rfl rfl rfl hlx hone (by omega) rfl rfl (fun _ _ => ?_))) | first | refine bb_enil ?_ | (refine c_bsl0 rfl rfl rfl rfl (fun _ => ?_)) | (refine c_append rfl rfl rfl rfl hlx hone (by omega) rfl rfl (fun _ _ => ?_))) | (apply sw_seq) | (apply at_srd) | (apply sw_skip) | (apply sw_ret) | (apply sw_exit) | (apply sw_block) | (apply sw_region) | (refine sw_cd rfl ?_; first | (apply gd_t) | (apply gd_ft) | (apply gd_tf) | (apply gd_dec_t <;> intro hq <;> (try (exfalso; omega))) | (apply gd_dec_f <;> intro hq <;> (try (exfalso; omega))) | (apply gd_beq_t <;> intro hq <;> (try (exfalso; omega))) | (apply gd_beq_f <;> intro hq <;> (try (exfalso; omega))) | (apply gd_bne_t <;> intro hq <;> (try (exfalso; omega))) | (apply gd_bne_f <;> intro hq <;> (try (exfalso; omega))) | (apply gd_not_t <;> intro hq) | (apply gd_not_f <;> intro hq) | (apply gd_raw_t <;> intro hq) | (apply gd_raw_f <;> intro hq)) | (apply at_thn) | (apply at_thn_ret) | (apply at_thn_exit) | (apply at_inb) | (apply at_inb_ret) | (apply at_inb_exit) | refine at_inb_pass rfl ?_ | refine c_drawn (by kernel_rfl) ?_)
    refine e_sc _ (.inr rfl) rfl (List.Sublist.refl _) ?_
    simp only [Nat.zero_add, List.nil_append]
    exact ⟨_, _, rfl, rfl⟩
theorem qd_eqv (q q' : Qd) (b : Bool) (h : b = decide (q = q')) : EqVal Tryd.prog 10000 170 (.agg (qd q).toArray) (.agg (qd q').toArray) b := by
  obtain ⟨r, x, y, z⟩ := q
  obtain ⟨r', x', y', z'⟩ := q'
  have hfs : Tryd.prog.fieldsOf 170 = (match Tryd.prog.underlying 170 with | some (.struct fs) => fs | _ => #[]) := rfl
  refine eqval_struct (d := 9999) (by rw [hfs, Tryd.underlying170]) (by kernel_rfl) ?_
  rw [hfs, Tryd.underlying170]
  by_cases hr : r = r'
  · subst hr
    refine .eq (by decide) (u := .int .i64 r) (v := .int .i64 r) (part_one rfl) (part_one rfl) (eqself_int _) ?_
    have hp := penEqv9 x y z x' y' z' _ rfl
    by_cases hE : (x, y, z) = (x', y', z')
    · rw [decide_eq_true hE] at hp
      rw [h, decide_eq_true (by simp only [Prod.mk.injEq] at hE ⊢; exact ⟨trivial, hE⟩)]
      exact .eq (by decide) (part_agg (sz := 3) rfl) (part_agg (sz := 3) rfl) hp .nil
    · rw [decide_eq_false hE] at hp
      rw [h, decide_eq_false (by simp only [Prod.mk.injEq] at hE ⊢; exact fun e => hE e.2)]
      exact .ne (by decide) (part_agg (sz := 3) rfl) (part_agg (sz := 3) rfl) hp
  · rw [h, decide_eq_false (by simp [hr])]
    refine .ne (by decide) (u := .int .i64 r) (v := .int .i64 r') (part_one rfl) (part_one rfl) ?_
    have := eqval_int (P := Tryd.prog) (t := 3) (d := 9998) (k := .i64) r r'
    rwa [show (r == r') = false from by simpa using hr] at this
theorem qI_elem {C : List Qd} {i : Int} (hi : i.toNat < C.length) : take? ((qds C).drop (i.toNat * 4)) 4 = some (qd (C.getD i.toNat qz)) := qds_elem hi
theorem equalQ_sv (G : Ctx) (H : List Ent) (C D : List Qd) {vs us : List Value} (a a2 : Option Addr) (n m c c2 : Nat) [h1 : RdC G H a vs] [h2 : RdC G H a2 us] (hv : vs = qds C) (hu : us = qds D) (hn : n = C.length) (hm : m = D.length) (hb : n ≤ 100000) (hb2 : m ≤ 100000) : SV Tryd.prog G 119 [.slice a n c, .slice a2 m c2] H (.bool (decide (C = D))) := by
  subst hv hu
  have hlx : (qds C).length = n * 4 := by rw [qds_len, hn]
  have hly : (qds D).length = m * 4 := by rw [qds_len, hm]
  by_cases hnm : n = m
  · subst hnm
    have hec := fun j (hj : j < n) => qI_elem (C := C) (i := (j : Int)) (by omega)
    have hed := fun j (hj : j < n) => qI_elem (C := D) (i := (j : Int)) (by omega)
    have hall : (∀ j, j < n → C.getD j qz = D.getD j qz) → C = D := fun h => List.ext_getElem (by omega) fun j h1 h2 => by
      have := h j (by omega)
      rw [List.getD_eq_getElem?_getD, List.getD_eq_getElem?_getD, List.getElem?_eq_getElem h1, List.getElem?_eq_getElem h2] at this
      exact this
    have Hec := Lib.hid hec
    have Hed := Lib.hid hed
    have Hall := Lib.hid hall
    clear hec hed hall hn hm
    refine sv_enter2 Tryd.func119 rfl rfl rfl rfl rfl ?_
    repeat' (first | (apply g_sl; first | (apply ks_nil; refine sl_nil ?_) | (apply ks_move; refine s_move rfl rfl ?_) | (apply ks_bin; refine s_bin rfl rfl rfl ?_; first | fail | (first | (apply kb_add; first | refine bb_add ⟨by omega, by omega⟩ ?_ | refine bb_of rfl ?_) | refine bb_of rfl ?_)) | (apply ks_load; first | (refine s_load rfl rfl ?_; first | refine ld_cell rfl ?_ | refine ld_whole rfl ?_ | refine ld_elem rfl ?_ | refine ld_part rfl rfl ?_) | fail) | (apply ks_asgn; refine s_asgn rfl rfl ?_) | (apply ks_indexA; first | refine s_indexA (c_indexAddr rfl rfl rfl rfl (by omega) (by omega)) rfl ?_ | fail) | (apply ks_bi; first | fail | refine s_call (c_len rfl rfl) rfl ?_ | refine s_call (c_len_str rfl rfl) rfl ?_ | refine s_call (c_bi rfl rfl rfl rfl) rfl ?_ | refine c_append rfl rfl rfl rfl (by first | rfl | simp [ints]) (by first | rfl | exact ints_one _ | exact octs_one _ | exact strs_one _) (by omega) rfl rfl (fun _ _ => ?_) | refine c_append_nil rfl rfl rfl rfl (by first | rfl | simp [ints]) (by first | rfl | exact ints_one _ | exact octs_one _ | exact strs_one _) (by omega) rfl rfl (fun _ _ => ?_)) | fail) | (apply g_sq; first | (apply kq_nil; refine sq_nil ?_) | (apply kq_move; refine q_move rfl rfl ?_) | (apply kq_bin; refine q_bin rfl rfl rfl ?_; first | fail | (first | (apply kb_add; first | refine bb_add ⟨by omega, by omega⟩ ?_ | refine bb_of rfl ?_) | refine bb_of rfl ?_)) | (apply kq_load; first | (refine q_load rfl rfl ?_; first | refine ld_cell rfl ?_ | refine ld_whole rfl ?_ | refine ld_elem rfl ?_ | refine ld_part rfl rfl ?_) | fail) | (apply kq_asgn; refine q_asgn rfl rfl ?_) | (apply kq_indexA; first | refine q_indexA (c_indexAddr rfl rfl rfl rfl (by omega) (by omega)) rfl ?_ | fail) | (apply kq_bi; first | fail | refine q_call (c_len rfl rfl) rfl ?_ | refine q_call (c_len_str rfl rfl) rfl ?_) | fail) | (apply sw_seq) | (apply at_srd) | (apply sw_skip) | (apply sw_ret) | (apply sw_exit) | (apply sw_block) | (apply sw_region) | (refine sw_cd rfl ?_; first | (apply gd_t) | (apply gd_ft) | (apply gd_tf) | (apply gd_dec_t <;> intro hq <;> (try (exfalso; omega))) | (apply gd_dec_f <;> intro hq <;> (try (exfalso; omega))) | (apply gd_beq_t <;> intro hq <;> (try (exfalso; omega))) | (apply gd_beq_f <;> intro hq <;> (try (exfalso; omega))) | (apply gd_bne_t <;> intro hq <;> (try (exfalso; omega))) | (apply gd_bne_f <;> intro hq <;> (try (exfalso; omega))) | (apply gd_not_t <;> intro hq) | (apply gd_not_f <;> intro hq) | (apply gd_raw_t <;> intro hq) | (apply gd_raw_f <;> intro hq)) | (apply at_thn) | (apply at_thn_ret) | (apply at_thn_exit) | (apply at_inb) | (apply at_inb_ret) | (apply at_inb_exit) | refine at_inb_pass rfl ?_ | refine c_drawn (by kernel_rfl) ?_)
    refine sw_loopg (α := Nat) (fun j => [(0, .slice a n c), (1, .slice a2 n c2), (12, .int .i64 n), (13, .int .i64 j)]) (fun _ => H)
      (fun j => j ≤ n ∧ ∀ i, i < j → C.getD i qz = D.getD i qz) (fun j => n - j) 0 ⟨Nat.zero_le _, fun i hi => absurd hi (Nat.not_lt_zero _)⟩ (by repeat (first | exact Le.nil _ | refine Le.cons (by first | rfl | (exact congrArg some (congrArg (Value.int _) (by omega)))) ?_)) (fun _ hw => hw.subs (by repeat (first | refine Subs.cons (by repeat constructor) ?_ | exact Subs.sub (by repeat (first | exact List.Sublist.refl _ | exact List.nil_sublist _ | refine List.Sublist.cons _ ?_))))) ?_
    rintro j ⟨hj, hs⟩
    have Hs := Lib.hid hs
    clear hs
    by_cases hlt : (j : Int) < n
    · have he1 := Hec.out j (by omega)
      have he2 := Hed.out j (by omega)
      have hE := qd_eqv (C.getD (j : Int).toNat qz) (D.getD (j : Int).toNat qz) _ rfl
      rw [Int.toNat_natCast] at hE
      rw [show C.getD (j : Int).toNat qz = C.getD j qz from by rw [Int.toNat_natCast]] at he1
      rw [show D.getD (j : Int).toNat qz = D.getD j qz from by rw [Int.toNat_natCast]] at he2
      by_cases hqq : C.getD j qz = D.getD j qz
      · rw [decide_eq_true hqq] at hE
        repeat' (first | (apply g_sl; first | (apply ks_nil; refine sl_nil ?_) | (apply ks_move; refine s_move rfl rfl ?_) | (apply ks_bin; refine s_bin rfl rfl rfl ?_; first | fail | (first | (apply kb_add; first | refine bb_add ⟨by omega, by omega⟩ ?_ | refine bb_of rfl ?_) | refine bb_of rfl ?_)) | (apply ks_load; first | (refine s_load rfl rfl ?_; first | refine ld_cell rfl ?_ | refine ld_whole rfl ?_ | refine ld_elem rfl ?_ | refine ld_part rfl rfl ?_) | fail) | (apply ks_asgn; refine s_asgn rfl rfl ?_) | (apply ks_indexA; first | refine s_indexA (c_indexAddr rfl rfl rfl rfl (by omega) (by omega)) rfl ?_ | fail) | (apply ks_bi; first | fail | refine s_call (c_len rfl rfl) rfl ?_ | refine s_call (c_len_str rfl rfl) rfl ?_ | refine s_call (c_bi rfl rfl rfl rfl) rfl ?_ | refine c_append rfl rfl rfl rfl (by first | rfl | simp [ints]) (by first | rfl | exact ints_one _ | exact octs_one _ | exact strs_one _) (by omega) rfl rfl (fun _ _ => ?_) | refine c_append_nil rfl rfl rfl rfl (by first | rfl | simp [ints]) (by first | rfl | exact ints_one _ | exact octs_one _ | exact strs_one _) (by omega) rfl rfl (fun _ _ => ?_)) | fail) | (apply g_sq; first | (apply kq_nil; refine sq_nil ?_) | (apply kq_move; refine q_move rfl rfl ?_) | (apply kq_bin; refine q_bin rfl rfl rfl ?_; first | first | (refine q_indexA (c_indexAddr rfl rfl rfl hlx (by omega) (by omega)) rfl ?_) | (refine q_indexA (c_indexAddr rfl rfl rfl hly (by omega) (by omega)) rfl ?_) | (refine q_load rfl rfl ?_; first | refine ld_elems he1 rfl ?_ | refine ld_elems he2 rfl ?_) | (refine bb_nev hE (by kernel_rfl) ?_) | (first | (apply kb_add; first | refine bb_add ⟨by omega, by omega⟩ ?_ | refine bb_of rfl ?_) | refine bb_of rfl ?_)) | (apply kq_load; first | (refine q_load rfl rfl ?_; first | refine ld_cell rfl ?_ | refine ld_whole rfl ?_ | refine ld_elem rfl ?_ | refine ld_part rfl rfl ?_) | first | (refine q_indexA (c_indexAddr rfl rfl rfl hlx (by omega) (by omega)) rfl ?_) | (refine q_indexA (c_indexAddr rfl rfl rfl hly (by omega) (by omega)) rfl ?_) | (refine q_load rfl rfl ?_; first | refine ld_elems he1 rfl ?_ | refine ld_elems he2 rfl ?_) | (refine bb_nev hE (by kernel_rfl) ?_)) | (apply kq_asgn; refine q_asgn rfl rfl ?_) | (apply kq_indexA; first | refine q_indexA (c_indexAddr rfl rfl rfl rfl (by omega) (by omega)) rfl ?_ | first | (refine q_indexA (c_indexAddr rfl rfl rfl hlx (by omega) (by omega)) rfl ?_) | (refine q_indexA (c_indexAddr rfl rfl rfl hly (by omega) (by omega)) rfl ?_) | (refine q_load rfl rfl ?_; first | refine ld_elems he1 rfl ?_ | refine ld_elems he2 rfl ?_) | (refine bb_nev hE (by kernel_rfl) ?_)) | (apply kq_bi; first | first | (refine q_indexA (c_indexAddr rfl rfl rfl hlx (by omega) (by omega)) rfl ?_) | (refine q_indexA (c_indexAddr rfl rfl rfl hly (by omega) (by omega)) rfl ?_) | (refine q_load rfl rfl ?_; first | refine ld_elems he1 rfl ?_ | refine ld_elems he2 rfl ?_) | (refine bb_nev hE (by kernel_rfl) ?_) | refine q_call (c_len rfl rfl) rfl ?_ | refine q_call (c_len_str rfl rfl) rfl ?_) | first | (refine q_indexA (c_indexAddr rfl rfl rfl hlx (by omega) (by omega)) rfl ?_) | (refine q_indexA (c_indexAddr rfl rfl rfl hly (by omega) (by omega)) rfl ?_) | (refine q_load rfl rfl ?_; first | refine ld_elems he1 rfl ?_ | refine ld_elems he2 rfl ?_) | (refine bb_nev hE (by kernel_rfl) ?_)) | (apply sw_seq) | (apply at_srd) | (apply sw_skip) | (apply sw_ret) | (apply sw_exit) | (apply sw_block) | (apply sw_region) | (refine sw_cd rfl ?_; first | (apply gd_t) | (apply gd_ft) | (apply gd_tf) | (apply gd_dec_t <;> intro hq <;> (try (exfalso; omega))) | (apply gd_dec_f <;> intro hq <;> (try (exfalso; omega))) | (apply gd_beq_t <;> intro hq <;> (try (exfalso; omega))) | (apply gd_beq_f <;> intro hq <;> (try (exfalso; omega))) | (apply gd_bne_t <;> intro hq <;> (try (exfalso; omega))) | (apply gd_bne_f <;> intro hq <;> (try (exfalso; omega))) | (apply gd_not_t <;> intro hq) | (apply gd_not_f <;> intro hq) | (apply gd_raw_t <;> intro hq) | (apply gd_raw_f <;> intro hq)) | (apply at_thn) | (apply at_thn_ret) | (apply at_thn_exit) | (apply at_inb) | (apply at_inb_ret) | (apply at_inb_exit) | refine at_inb_pass rfl ?_ | refine c_drawn (by kernel_rfl) ?_)
        refine at_meet (j + 1) ⟨⟨by omega, fun i hi => ?_⟩, by omega⟩ (by repeat (first | exact Le.nil _ | refine Le.cons (by first | rfl | (exact congrArg some (congrArg (Value.int _) (by omega)))) ?_)) (fun _ hw => hw.subs (by repeat (first | refine Subs.cons (by repeat constructor) ?_ | exact Subs.sub (by repeat (first | exact List.Sublist.refl _ | exact List.nil_sublist _ | refine List.Sublist.cons _ ?_)))))
        rcases Nat.lt_or_ge i j with h | h
        · exact Hs.out i h
        · obtain rfl : i = j := by omega
          exact hqq
      · rw [decide_eq_false hqq] at hE
        repeat' (first | (apply g_sl; first | (apply ks_nil; refine sl_nil ?_) | (apply ks_move; refine s_move rfl rfl ?_) | (apply ks_bin; refine s_bin rfl rfl rfl ?_; first | fail | (first | (apply kb_add; first | refine bb_add ⟨by omega, by omega⟩ ?_ | refine bb_of rfl ?_) | refine bb_of rfl ?_)) | (apply ks_load; first | (refine s_load rfl rfl ?_; first | refine ld_cell rfl ?_ | refine ld_whole rfl ?_ | refine ld_elem rfl ?_ | refine ld_part rfl rfl ?_) | fail) | (apply ks_asgn; refine s_asgn rfl rfl ?_) | (apply ks_indexA; first | refine s_indexA (c_indexAddr rfl rfl rfl rfl (by omega) (by omega)) rfl ?_ | fail) | (apply ks_bi; first | fail | refine s_call (c_len rfl rfl) rfl ?_ | refine s_call (c_len_str rfl rfl) rfl ?_ | refine s_call (c_bi rfl rfl rfl rfl) rfl ?_ | refine c_append rfl rfl rfl rfl (by first | rfl | simp [ints]) (by first | rfl | exact ints_one _ | exact octs_one _ | exact strs_one _) (by omega) rfl rfl (fun _ _ => ?_) | refine c_append_nil rfl rfl rfl rfl (by first | rfl | simp [ints]) (by first | rfl | exact ints_one _ | exact octs_one _ | exact strs_one _) (by omega) rfl rfl (fun _ _ => ?_)) | fail) | (apply g_sq; first | (apply kq_nil; refine sq_nil ?_) | (apply kq_move; refine q_move rfl rfl ?_) | (apply kq_bin; refine q_bin rfl rfl rfl ?_; first | first | (refine q_indexA (c_indexAddr rfl rfl rfl hlx (by omega) (by omega)) rfl ?_) | (refine q_indexA (c_indexAddr rfl rfl rfl hly (by omega) (by omega)) rfl ?_) | (refine q_load rfl rfl ?_; first | refine ld_elems he1 rfl ?_ | refine ld_elems he2 rfl ?_) | (refine bb_nev hE (by kernel_rfl) ?_) | (first | (apply kb_add; first | refine bb_add ⟨by omega, by omega⟩ ?_ | refine bb_of rfl ?_) | refine bb_of rfl ?_)) | (apply kq_load; first | (refine q_load rfl rfl ?_; first | refine ld_cell rfl ?_ | refine ld_whole rfl ?_ | refine ld_elem rfl ?_ | refine ld_part rfl rfl ?_) | first | (refine q_indexA (c_indexAddr rfl rfl rfl hlx (by omega) (by omega)) rfl ?_) | (refine q_indexA (c_indexAddr rfl rfl rfl hly (by omega) (by omega)) rfl ?_) | (refine q_load rfl rfl ?_; first | refine ld_elems he1 rfl ?_ | refine ld_elems he2 rfl ?_) | (refine bb_nev hE (by kernel_rfl) ?_)) | (apply kq_asgn; refine q_asgn rfl rfl ?_) | (apply kq_indexA; first | refine q_indexA (c_indexAddr rfl rfl rfl rfl (by omega) (by omega)) rfl ?_ | first | (refine q_indexA (c_indexAddr rfl rfl rfl hlx (by omega) (by omega)) rfl ?_) | (refine q_indexA (c_indexAddr rfl rfl rfl hly (by omega) (by omega)) rfl ?_) | (refine q_load rfl rfl ?_; first | refine ld_elems he1 rfl ?_ | refine ld_elems he2 rfl ?_) | (refine bb_nev hE (by kernel_rfl) ?_)) | (apply kq_bi; first | first | (refine q_indexA (c_indexAddr rfl rfl rfl hlx (by omega) (by omega)) rfl ?_) | (refine q_indexA (c_indexAddr rfl rfl rfl hly (by omega) (by omega)) rfl ?_) | (refine q_load rfl rfl ?_; first | refine ld_elems he1 rfl ?_ | refine ld_elems he2 rfl ?_) | (refine bb_nev hE (by kernel_rfl) ?_) | refine q_call (c_len rfl rfl) rfl ?_ | refine q_call (c_len_str rfl rfl) rfl ?_) | first | (refine q_indexA (c_indexAddr rfl rfl rfl hlx (by omega) (by omega)) rfl ?_) | (refine q_indexA (c_indexAddr rfl rfl rfl hly (by omega) (by omega)) rfl ?_) | (refine q_load rfl rfl ?_; first | refine ld_elems he1 rfl ?_ | refine ld_elems he2 rfl ?_) | (refine bb_nev hE (by kernel_rfl) ?_)) | (apply sw_seq) | (apply at_srd) | (apply sw_skip) | (apply sw_ret) | (apply sw_exit) | (apply sw_block) | (apply sw_region) | (refine sw_cd rfl ?_; first | (apply gd_t) | (apply gd_ft) | (apply gd_tf) | (apply gd_dec_t <;> intro hq <;> (try (exfalso; omega))) | (apply gd_dec_f <;> intro hq <;> (try (exfalso; omega))) | (apply gd_beq_t <;> intro hq <;> (try (exfalso; omega))) | (apply gd_beq_f <;> intro hq <;> (try (exfalso; omega))) | (apply gd_bne_t <;> intro hq <;> (try (exfalso; omega))) | (apply gd_bne_f <;> intro hq <;> (try (exfalso; omega))) | (apply gd_not_t <;> intro hq) | (apply gd_not_f <;> intro hq) | (apply gd_raw_t <;> intro hq) | (apply gd_raw_f <;> intro hq)) | (apply at_thn) | (apply at_thn_ret) | (apply at_thn_exit) | (apply at_inb) | (apply at_inb_ret) | (apply at_inb_exit) | refine at_inb_pass rfl ?_ | refine c_drawn (by kernel_rfl) ?_)
        refine e_sv (by first | exact .inl rfl | exact .inr rfl) rfl (by repeat (first | exact List.Sublist.refl _ | exact List.nil_sublist _ | refine List.Sublist.cons _ ?_)) ?_
        rw [decide_eq_false (fun e => hqq (by rw [e]))]
        rfl
    · obtain rfl : j = n := by omega
      repeat' (first | (apply g_sl; first | (apply ks_nil; refine sl_nil ?_) | (apply ks_move; refine s_move rfl rfl ?_) | (apply ks_bin; refine s_bin rfl rfl rfl ?_; first | fail | (first | (apply kb_add; first | refine bb_add ⟨by omega, by omega⟩ ?_ | refine bb_of rfl ?_) | refine bb_of rfl ?_)) | (apply ks_load; first | (refine s_load rfl rfl ?_; first | refine ld_cell rfl ?_ | refine ld_whole rfl ?_ | refine ld_elem rfl ?_ | refine ld_part rfl rfl ?_) | fail) | (apply ks_asgn; refine s_asgn rfl rfl ?_) | (apply ks_indexA; first | refine s_indexA (c_indexAddr rfl rfl rfl rfl (by omega) (by omega)) rfl ?_ | fail) | (apply ks_bi; first | fail | refine s_call (c_len rfl rfl) rfl ?_ | refine s_call (c_len_str rfl rfl) rfl ?_ | refine s_call (c_bi rfl rfl rfl rfl) rfl ?_ | refine c_append rfl rfl rfl rfl (by first | rfl | simp [ints]) (by first | rfl | exact ints_one _ | exact octs_one _ | exact strs_one _) (by omega) rfl rfl (fun _ _ => ?_) | refine c_append_nil rfl rfl rfl rfl (by first | rfl | simp [ints]) (by first | rfl | exact ints_one _ | exact octs_one _ | exact strs_one _) (by omega) rfl rfl (fun _ _ => ?_)) | fail) | (apply g_sq; first | (apply kq_nil; refine sq_nil ?_) | (apply kq_move; refine q_move rfl rfl ?_) | (apply kq_bin; refine q_bin rfl rfl rfl ?_; first | fail | (first | (apply kb_add; first | refine bb_add ⟨by omega, by omega⟩ ?_ | refine bb_of rfl ?_) | refine bb_of rfl ?_)) | (apply kq_load; first | (refine q_load rfl rfl ?_; first | refine ld_cell rfl ?_ | refine ld_whole rfl ?_ | refine ld_elem rfl ?_ | refine ld_part rfl rfl ?_) | fail) | (apply kq_asgn; refine q_asgn rfl rfl ?_) | (apply kq_indexA; first | refine q_indexA (c_indexAddr rfl rfl rfl rfl (by omega) (by omega)) rfl ?_ | fail) | (apply kq_bi; first | fail | refine q_call (c_len rfl rfl) rfl ?_ | refine q_call (c_len_str rfl rfl) rfl ?_) | fail) | (apply sw_seq) | (apply at_srd) | (apply sw_skip) | (apply sw_ret) | (apply sw_exit) | (apply sw_block) | (apply sw_region) | (refine sw_cd rfl ?_; first | (apply gd_t) | (apply gd_ft) | (apply gd_tf) | (apply gd_dec_t <;> intro hq <;> (try (exfalso; omega))) | (apply gd_dec_f <;> intro hq <;> (try (exfalso; omega))) | (apply gd_beq_t <;> intro hq <;> (try (exfalso; omega))) | (apply gd_beq_f <;> intro hq <;> (try (exfalso; omega))) | (apply gd_bne_t <;> intro hq <;> (try (exfalso; omega))) | (apply gd_bne_f <;> intro hq <;> (try (exfalso; omega))) | (apply gd_not_t <;> intro hq) | (apply gd_not_f <;> intro hq) | (apply gd_raw_t <;> intro hq) | (apply gd_raw_f <;> intro hq)) | (apply at_thn) | (apply at_thn_ret) | (apply at_thn_exit) | (apply at_inb) | (apply at_inb_ret) | (apply at_inb_exit) | refine at_inb_pass rfl ?_ | refine c_drawn (by kernel_rfl) ?_)
      refine e_sv (by first | exact .inl rfl | exact .inr rfl) rfl (by repeat (first | exact List.Sublist.refl _ | exact List.nil_sublist _ | refine List.Sublist.cons _ ?_)) ?_
      rw [decide_eq_true (Hall.out Hs.out)]
      rfl
  · rw [decide_eq_false (fun e => hnm (by rw [hn, hm, e]))]
    clear hlx hly
    refine sv_enter2 Tryd.func119 rfl rfl rfl rfl rfl ?_
    repeat' (first | (apply g_sl; first | (apply ks_nil; refine sl_nil ?_) | (apply ks_move; refine s_move rfl rfl ?_) | (apply ks_bin; refine s_bin rfl rfl rfl ?_; first | fail | (first | (apply kb_add; first | refine bb_add ⟨by omega, by omega⟩ ?_ | refine bb_of rfl ?_) | refine bb_of rfl ?_)) | (apply ks_load; first | (refine s_load rfl rfl ?_; first | refine ld_cell rfl ?_ | refine ld_whole rfl ?_ | refine ld_elem rfl ?_ | refine ld_part rfl rfl ?_) | fail) | (apply ks_asgn; refine s_asgn rfl rfl ?_) | (apply ks_indexA; first | refine s_indexA (c_indexAddr rfl rfl rfl rfl (by omega) (by omega)) rfl ?_ | fail) | (apply ks_bi; first | fail | refine s_call (c_len rfl rfl) rfl ?_ | refine s_call (c_len_str rfl rfl) rfl ?_ | refine s_call (c_bi rfl rfl rfl rfl) rfl ?_ | refine c_append rfl rfl rfl rfl (by first | rfl | simp [ints]) (by first | rfl | exact ints_one _ | exact octs_one _ | exact strs_one _) (by omega) rfl rfl (fun _ _ => ?_) | refine c_append_nil rfl rfl rfl rfl (by first | rfl | simp [ints]) (by first | rfl | exact ints_one _ | exact octs_one _ | exact strs_one _) (by omega) rfl rfl (fun _ _ => ?_)) | fail) | (apply g_sq; first | (apply kq_nil; refine sq_nil ?_) | (apply kq_move; refine q_move rfl rfl ?_) | (apply kq_bin; refine q_bin rfl rfl rfl ?_; first | fail | (first | (apply kb_add; first | refine bb_add ⟨by omega, by omega⟩ ?_ | refine bb_of rfl ?_) | refine bb_of rfl ?_)) | (apply kq_load; first | (refine q_load rfl rfl ?_; first | refine ld_cell rfl ?_ | refine ld_whole rfl ?_ | refine ld_elem rfl ?_ | refine ld_part rfl rfl ?_) | fail) | (apply kq_asgn; refine q_asgn rfl rfl ?_) | (apply kq_indexA; first | refine q_indexA (c_indexAddr rfl rfl rfl rfl (by omega) (by omega)) rfl ?_ | fail) | (apply kq_bi; first | fail | refine q_call (c_len rfl rfl) rfl ?_ | refine q_call (c_len_str rfl rfl) rfl ?_) | fail) | (apply sw_seq) | (apply at_srd) | (apply sw_skip) | (apply sw_ret) | (apply sw_exit) | (apply sw_block) | (apply sw_region) | (refine sw_cd rfl ?_; first | (apply gd_t) | (apply gd_ft) | (apply gd_tf) | (apply gd_dec_t <;> intro hq <;> (try (exfalso; omega))) | (apply gd_dec_f <;> intro hq <;> (try (exfalso; omega))) | (apply gd_beq_t <;> intro hq <;> (try (exfalso; omega))) | (apply gd_beq_f <;> intro hq <;> (try (exfalso; omega))) | (apply gd_bne_t <;> intro hq <;> (try (exfalso; omega))) | (apply gd_bne_f <;> intro hq <;> (try (exfalso; omega))) | (apply gd_not_t <;> intro hq) | (apply gd_not_f <;> intro hq) | (apply gd_raw_t <;> intro hq) | (apply gd_raw_f <;> intro hq)) | (apply at_thn) | (apply at_thn_ret) | (apply at_thn_exit) | (apply at_inb) | (apply at_inb_ret) | (apply at_inb_exit) | refine at_inb_pass rfl ?_ | refine c_drawn (by kernel_rfl) ?_)
    all_goals first | (exfalso; omega) | (refine e_sv (by first | exact .inl rfl | exact .inr rfl) rfl (by repeat (first | exact List.Sublist.refl _ | exact List.nil_sublist _ | refine List.Sublist.cons _ ?_)) ?_; rfl)
abbrev gridV (w h : Int) (a : Option Addr) (n c : Nat) : Value := .agg [.int .i64 w, .int .i64 h, .slice a n c].toArray
end Go.Proofs.YtflmckoolagikaaDoor
namespace Go.Proofs.YtflmckoolagikaaDoor
open Go Go.RowKit Go.Fw Go.Sx
set_option maxRecDepth 100000
set_option maxHeartbeats 1000000
attribute [local irreducible] SW SL SQ AtQ SV SC BB LD PK Yields SO SOT SOA SY
theorem sizeE_01 (w h : Int) : sizeE w h = 0 ∧ (1 ≤ w ∧ w ≤ 160 ∧ 1 ≤ h ∧ h ≤ 60) ∨ sizeE w h = 1 ∧ ¬ (1 ≤ w ∧ w ≤ 160 ∧ 1 ≤ h ∧ h ≤ 60) := by
  unfold sizeE
  split
  · exact .inl ⟨rfl, by assumption⟩
  · exact .inr ⟨rfl, by assumption⟩
end Go.Proofs.YtflmckoolagikaaDoor
end
section
namespace Go.Sx
open Go Go.RowKit Go.Fw
end Go.Sx
namespace Go.Proofs.YtflmckoolagikaaDoor
open Go Go.RowKit Go.Fw Go.Sx
set_option maxRecDepth 100000
set_option maxHeartbeats 1000000
attribute [local irreducible] SW SL SQ AtQ SV SC BB LD PK Yields SO SOT SOA SY
theorem sizeRight_sv (G : Ctx) (H : List Ent) (w h : Int) : SV Tryd.prog G 113 [.int .i64 w, .int .i64 h] H (.bool (decide (sizeE w h = 0))) := by
  have cB := fun H x lo hi => show SV Tryd.prog G 26 [.int .i64 x, .int .i64 lo, .int .i64 hi] H (.bool (decide (lo ≤ x ∧ x ≤ hi))) from by have h := between_sv G H x lo hi; unfold betB at h; exact h
  have e : decide (sizeE w h = 0) = (decide (1 ≤ w ∧ w ≤ 160) && decide (1 ≤ h ∧ h ≤ 60)) := by
    rcases sizeE_01 w h with ⟨hs, hw⟩ | ⟨hs, hw⟩
    · rw [hs, decide_eq_true rfl, decide_eq_true ⟨hw.1, hw.2.1⟩, decide_eq_true ⟨hw.2.2.1, hw.2.2.2⟩]; rfl
    · rw [hs, decide_eq_false (by decide)]
      by_cases h1 : 1 ≤ w ∧ w ≤ 160
      · rw [decide_eq_true h1, decide_eq_false (by omega)]; rfl
      · rw [decide_eq_false h1]; rfl
  rw [e]
  refine sv_enter2 Tryd.func113 rfl rfl rfl rfl rfl ?_
  repeat' (first | (apply g_sl; first | (apply ks_nil; refine sl_nil ?_) | (apply ks_move; refine s_move rfl rfl ?_) | (apply ks_asgn; refine s_asgn rfl rfl ?_) | (apply ks_pick; refine s_pick rfl rfl ?_; first | (apply kp_t; refine pk_t rfl ?_) | (apply kp_f; refine pk_f rfl ?_) | refine pk_s rfl rfl ?_) | (apply ks_fn; first | refine c_callv rfl rfl rfl (cB _ _ _ _) rfl rfl ?_) | (apply ks_guard; first | (refine sl_gd rfl rfl rfl rfl ?_; first | (apply gd_t) | (apply gd_ft) | (apply gd_tf) | (apply gd_dec_t <;> intro hq <;> (try (exfalso; omega))) | (apply gd_dec_f <;> intro hq <;> (try (exfalso; omega))) | (apply gd_beq_t <;> intro hq <;> (try (exfalso; omega))) | (apply gd_beq_f <;> intro hq <;> (try (exfalso; omega))) | (apply gd_bne_t <;> intro hq <;> (try (exfalso; omega))) | (apply gd_bne_f <;> intro hq <;> (try (exfalso; omega))) | (apply gd_not_t <;> intro hq) | (apply gd_not_f <;> intro hq) | (apply gd_raw_t <;> intro hq) | (apply gd_raw_f <;> intro hq)) | refine sl_skip_u rfl rfl rfl rfl rfl rfl ?_) | fail) | (apply sw_seq) | (apply at_srd) | (apply sw_skip) | (apply sw_ret) | (apply sw_exit) | (apply sw_block) | (apply sw_region) | (refine sw_cd rfl ?_; first | (apply gd_t) | (apply gd_ft) | (apply gd_tf) | (apply gd_dec_t <;> intro hq <;> (try (exfalso; omega))) | (apply gd_dec_f <;> intro hq <;> (try (exfalso; omega))) | (apply gd_beq_t <;> intro hq <;> (try (exfalso; omega))) | (apply gd_beq_f <;> intro hq <;> (try (exfalso; omega))) | (apply gd_bne_t <;> intro hq <;> (try (exfalso; omega))) | (apply gd_bne_f <;> intro hq <;> (try (exfalso; omega))) | (apply gd_not_t <;> intro hq) | (apply gd_not_f <;> intro hq) | (apply gd_raw_t <;> intro hq) | (apply gd_raw_f <;> intro hq)) | (apply at_thn) | (apply at_thn_ret) | (apply at_thn_exit) | (apply at_inb) | (apply at_inb_ret) | (apply at_inb_exit) | refine at_inb_pass rfl ?_ | refine c_drawn (by kernel_rfl) ?_)
  all_goals (refine e_sv (by first | exact .inl rfl | exact .inr rfl) rfl (by repeat (first | exact List.Sublist.refl _ | exact List.nil_sublist _ | refine List.Sublist.cons _ ?_)) ?_; simp [*, resV])
end Go.Proofs.YtflmckoolagikaaDoor
namespace Go.Fw
open Go Go.RowKit Go.Sx
end Go.Fw
namespace Go.Proofs.YtflmckoolagikaaDoor
open Go Go.RowKit Go.Fw Go.Sx
set_option maxRecDepth 100000
set_option maxHeartbeats 1000000
attribute [local irreducible] SW SL SQ AtQ SV SC BB LD PK Yields SO SOT SOA SY
theorem blank_sv (G : Ctx) (H : List Ent) (x y z : Int) : SV Tryd.prog G 179 [penV x y z] H (.agg (qd (32, x, y, z)).toArray) := by
  refine sv_enter1 Tryd.func179 rfl rfl rfl rfl rfl ?_
  repeat' (first | (apply g_sl; first | (apply ks_nil; refine sl_nil ?_) | (apply ks_load; first | (refine s_load rfl rfl ?_; first | refine ld_cell rfl ?_ | refine ld_whole rfl ?_ | refine ld_elem rfl ?_ | refine ld_part rfl rfl ?_) | fail) | (apply ks_build; first | refine s_build (c_build rfl rfl rfl) rfl ?_ | fail) | (apply ks_store; first | first | refine c_store rfl rfl rfl rfl rfl rfl rfl ?_ | refine c_storew rfl rfl rfl rfl rfl rfl rfl rfl ?_ | refine c_storee rfl rfl rfl rfl rfl (by omega) rfl ?_ | fail) | (apply ks_box; refine c_box rfl rfl rfl rfl rfl rfl (fun _ => ?_)) | (apply ks_alloc; refine c_alloc rfl rfl rfl rfl (fun _ => ?_)) | fail) | (apply sw_seq) | (apply at_srd) | (apply sw_skip) | (apply sw_ret) | (apply sw_exit) | (apply sw_block) | (apply sw_region) | (refine sw_cd rfl ?_; first | (apply gd_t) | (apply gd_ft) | (apply gd_tf) | (apply gd_dec_t <;> intro hq <;> (try (exfalso; omega))) | (apply gd_dec_f <;> intro hq <;> (try (exfalso; omega))) | (apply gd_beq_t <;> intro hq <;> (try (exfalso; omega))) | (apply gd_beq_f <;> intro hq <;> (try (exfalso; omega))) | (apply gd_bne_t <;> intro hq <;> (try (exfalso; omega))) | (apply gd_bne_f <;> intro hq <;> (try (exfalso; omega))) | (apply gd_not_t <;> intro hq) | (apply gd_not_f <;> intro hq) | (apply gd_raw_t <;> intro hq) | (apply gd_raw_f <;> intro hq)) | (apply at_thn) | (apply at_thn_ret) | (apply at_thn_exit) | (apply at_inb) | (apply at_inb_ret) | (apply at_inb_exit) | refine at_inb_pass rfl ?_ | refine c_drawn (by kernel_rfl) ?_)
  refine e_scc H (by first | exact .inl rfl | exact .inr rfl) rfl rfl rfl (fun _ hw => hw.subs (by repeat (first | refine Subs.cons (by repeat constructor) ?_ | exact Subs.sub (by repeat (first | exact List.Sublist.refl _ | exact List.nil_sublist _ | refine List.Sublist.cons _ ?_))))) ?_
  exact ⟨rfl, rfl⟩
end Go.Proofs.YtflmckoolagikaaDoor
namespace Go.Fw
open Go Go.RowKit Go.Sx
theorem over_mid {A R B : List Qd} {i : Nat} (q : Qd) (hi : i < R.length) : over (qds A ++ qds R ++ qds B) (A.length * 4 + i * 4) (qd q) = qds A ++ qds (R.set i q) ++ qds B := by
  have h1 : A.length * 4 + i * 4 = (A.length + i) * 4 := by omega
  rw [← qds_app, ← qds_app, h1, qds_over q (by rw [List.length_append, List.length_append]; omega), List.append_assoc, List.set_append_right _ _ (by omega), show A.length + i - A.length = i from by omega, List.set_append_left _ _ hi, qds_app, qds_app, List.append_assoc]
end Go.Fw
namespace Go.Proofs.YtflmckoolagikaaDoor
open Go Go.RowKit Go.Fw Go.Sx
set_option maxRecDepth 100000
set_option maxHeartbeats 1000000
attribute [local irreducible] SW SL SQ AtQ SV SC BB LD PK Yields SO SOT SOA SY
end Go.Proofs.YtflmckoolagikaaDoor
namespace Go.Fw
open Go Go.RowKit Go.Sx
end Go.Fw
namespace Go.Proofs.YtflmckoolagikaaDoor
open Go Go.RowKit Go.Fw Go.Sx
set_option maxRecDepth 100000
set_option maxHeartbeats 1000000
attribute [local irreducible] SW SL SQ AtQ SV SC BB LD PK Yields SO SOT SOA SY
end Go.Proofs.YtflmckoolagikaaDoor
namespace Go.Sx
open Go Go.RowKit Go.Fw
end Go.Sx
namespace Go.Proofs.YtflmckoolagikaaDoor
open Go Go.RowKit Go.Fw Go.Sx
set_option maxRecDepth 100000
set_option maxHeartbeats 1000000
attribute [local irreducible] SW SL SQ AtQ SV SC BB LD PK Yields SO SOT SOA SY
theorem gridClone_sc (G : Ctx) (H : List Ent) (C : List Qd) {vs : List Value} (w h : Int) (a : Option Addr) (n c : Nat) [h1 : RdC G H a vs] (hv : vs = qds C) (hn : n = C.length) (hm : n ≤ 100000) : SC Tryd.prog G 109 [gridV w h a n c] H fun v H' => ∃ a' c', v = gridV w h a' n c' ∧ H' = .own 170 4 a' n c' (qds C) :: H := by
  subst hv
  have cC := fun (H : List Ent) {vs : List Value} [RdC G H a vs] (hv : vs = qds C) => cloneQ_sc G H C a n c hv hn hm
  refine sc_enter1 Tryd.func109 rfl rfl rfl rfl rfl ?_
  repeat' (first | (apply g_sl; first | (apply ks_nil; refine sl_nil ?_) | (apply ks_load; first | (refine s_load rfl rfl ?_; first | refine ld_cell rfl ?_ | refine ld_whole rfl ?_ | refine ld_elem rfl ?_ | refine ld_part rfl rfl ?_) | fail) | (apply ks_field; first | refine s_field (c_field0 rfl rfl) rfl ?_ | refine s_field (c_field rfl rfl) rfl ?_) | (apply ks_fn; first | (refine c_call rfl rfl rfl (cC _ rfl) rfl rfl ?_; rintro _ _ ⟨a2, c2, rfl, rfl⟩)) | (apply ks_store; first | first | refine c_store rfl rfl rfl rfl rfl rfl rfl ?_ | refine c_storew rfl rfl rfl rfl rfl rfl rfl rfl ?_ | refine c_storee rfl rfl rfl rfl rfl (by omega) rfl ?_ | fail) | (apply ks_box; refine c_box rfl rfl rfl rfl rfl rfl (fun _ => ?_)) | (apply ks_alloc; refine c_alloc rfl rfl rfl rfl (fun _ => ?_)) | fail) | (apply sw_seq) | (apply at_srd) | (apply sw_skip) | (apply sw_ret) | (apply sw_exit) | (apply sw_block) | (apply sw_region) | (refine sw_cd rfl ?_; first | (apply gd_t) | (apply gd_ft) | (apply gd_tf) | (apply gd_dec_t <;> intro hq <;> (try (exfalso; omega))) | (apply gd_dec_f <;> intro hq <;> (try (exfalso; omega))) | (apply gd_beq_t <;> intro hq <;> (try (exfalso; omega))) | (apply gd_beq_f <;> intro hq <;> (try (exfalso; omega))) | (apply gd_bne_t <;> intro hq <;> (try (exfalso; omega))) | (apply gd_bne_f <;> intro hq <;> (try (exfalso; omega))) | (apply gd_not_t <;> intro hq) | (apply gd_not_f <;> intro hq) | (apply gd_raw_t <;> intro hq) | (apply gd_raw_f <;> intro hq)) | (apply at_thn) | (apply at_thn_ret) | (apply at_thn_exit) | (apply at_inb) | (apply at_inb_ret) | (apply at_inb_exit) | refine at_inb_pass rfl ?_ | refine c_drawn (by kernel_rfl) ?_)
  refine e_scc (.own 170 4 a2 n c2 (qds C) :: H) (by first | exact .inl rfl | exact .inr rfl) rfl rfl rfl (fun _ hw => hw.subs (by repeat (first | refine Subs.cons (by repeat constructor) ?_ | exact Subs.sub (by repeat (first | exact List.Sublist.refl _ | exact List.nil_sublist _ | refine List.Sublist.cons _ ?_))))) ?_
  exact ⟨a2, c2, rfl, rfl⟩
abbrev gridZ : Value := gridV 0 0 none 0 0
end Go.Proofs.YtflmckoolagikaaDoor
namespace Go.Proofs.YtflmckoolagikaaDoor
open Go Go.RowKit Go.Fw Go.Sx
set_option maxRecDepth 100000
set_option maxHeartbeats 1000000
attribute [local irreducible] SW SL SQ AtQ SV SC BB LD PK Yields SO SOT SOA SY
end Go.Proofs.YtflmckoolagikaaDoor
namespace Go.Sx
open Go Go.RowKit Go.Fw
end Go.Sx
namespace Go.Proofs.YtflmckoolagikaaDoor
open Go Go.RowKit Go.Fw Go.Sx
set_option maxRecDepth 100000
set_option maxHeartbeats 1000000
attribute [local irreducible] SW SL SQ AtQ SV SC BB LD PK Yields SO SOT SOA SY
theorem sameGrid_sv (G : Ctx) (H : List Ent) (C D : List Qd) {vs us : List Value} (w h w2 h2 : Int) (a a2 : Option Addr) (n m c c2 : Nat) [h1 : RdC G H a vs] [h3 : RdC G H a2 us] (hv : vs = qds C) (hu : us = qds D) (hn : n = C.length) (hm : m = D.length) (hb : n ≤ 100000) (hb2 : m ≤ 100000) (e1 : w = w2) (e2 : h = h2) (e3 : C = D) : SV Tryd.prog G 116 [gridV w h a n c, gridV w2 h2 a2 m c2] H (.bool true) := by
  subst hv hu e1 e2
  have cE := fun (H : List Ent) {vs us : List Value} [RdC G H a vs] [RdC G H a2 us] (hv : vs = qds C) (hu : us = qds D) => equalQ_sv G H C D a a2 n m c c2 hv hu hn hm hb hb2
  rw [decide_eq_true e3] at cE
  clear hn hm e3
  refine sv_enter2 Tryd.func116 rfl rfl rfl rfl rfl ?_
  repeat' (first | (apply g_sl; first | (apply ks_nil; refine sl_nil ?_) | (apply ks_move; refine s_move rfl rfl ?_) | (apply ks_bin; refine s_bin rfl rfl rfl ?_; first | fail | (first | refine bb_of rfl ?_)) | (apply ks_load; first | (refine s_load rfl rfl ?_; first | refine ld_cell rfl ?_ | refine ld_whole rfl ?_ | refine ld_elem rfl ?_ | refine ld_part rfl rfl ?_) | fail) | (apply ks_asgn; refine s_asgn rfl rfl ?_) | (apply ks_pick; refine s_pick rfl rfl ?_; first | (apply kp_t; refine pk_t rfl ?_) | (apply kp_f; refine pk_f rfl ?_) | refine pk_s rfl rfl ?_) | (apply ks_field; first | refine s_field (c_field0 rfl rfl) rfl ?_ | refine s_field (c_field rfl rfl) rfl ?_) | (apply ks_fn; first | refine c_callv rfl rfl rfl (cE _ rfl rfl) rfl rfl ?_) | (apply ks_box; refine c_box rfl rfl rfl rfl rfl rfl (fun _ => ?_)) | (apply ks_guard; first | (refine sl_gd rfl rfl rfl rfl ?_; first | (apply gd_t) | (apply gd_ft) | (apply gd_tf) | (apply gd_dec_t <;> intro hq <;> (try (exfalso; omega))) | (apply gd_dec_f <;> intro hq <;> (try (exfalso; omega))) | (apply gd_beq_t <;> intro hq <;> (try (exfalso; omega))) | (apply gd_beq_f <;> intro hq <;> (try (exfalso; omega))) | (apply gd_bne_t <;> intro hq <;> (try (exfalso; omega))) | (apply gd_bne_f <;> intro hq <;> (try (exfalso; omega))) | (apply gd_not_t <;> intro hq) | (apply gd_not_f <;> intro hq) | (apply gd_raw_t <;> intro hq) | (apply gd_raw_f <;> intro hq)) | refine sl_skip_u rfl rfl rfl rfl rfl rfl ?_) | fail) | (apply sw_seq) | (apply at_srd) | (apply sw_skip) | (apply sw_ret) | (apply sw_exit) | (apply sw_block) | (apply sw_region) | (refine sw_cd rfl ?_; first | (apply gd_t) | (apply gd_ft) | (apply gd_tf) | (apply gd_dec_t <;> intro hq <;> (try (exfalso; omega))) | (apply gd_dec_f <;> intro hq <;> (try (exfalso; omega))) | (apply gd_beq_t <;> intro hq <;> (try (exfalso; omega))) | (apply gd_beq_f <;> intro hq <;> (try (exfalso; omega))) | (apply gd_bne_t <;> intro hq <;> (try (exfalso; omega))) | (apply gd_bne_f <;> intro hq <;> (try (exfalso; omega))) | (apply gd_not_t <;> intro hq) | (apply gd_not_f <;> intro hq) | (apply gd_raw_t <;> intro hq) | (apply gd_raw_f <;> intro hq)) | (apply at_thn) | (apply at_thn_ret) | (apply at_thn_exit) | (apply at_inb) | (apply at_inb_ret) | (apply at_inb_exit) | refine at_inb_pass rfl ?_ | refine c_drawn (by kernel_rfl) ?_)
  all_goals first | exact absurd rfl (by assumption) | (refine e_sv (by first | exact .inl rfl | exact .inr rfl) rfl (by repeat (first | exact List.Sublist.refl _ | exact List.nil_sublist _ | refine List.Sublist.cons _ ?_)) ?_; rfl)
end Go.Proofs.YtflmckoolagikaaDoor
end
