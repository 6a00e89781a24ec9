/- Texts of this claim, merged: Sxp CardM Shelf CardU About SxC TabP TabU Width WidthSum WidthSame KmpA Slices Cut Pen GridA GridB Rep RepQ SxD. -/
import Derived.Test.YtmbfechiallppaaGreatDoorTl1
import Derived.WalkKit
import Derived.WalkSpells
import Derived.WalkLawsBesides
import Derived.Handy
import Derived.Lib.Hide
import Derived.Laws.BitsAllLaws
import Derived.Deep.MidRow
import Derived.Deep.WholeRow
import Derived.BigQuiet
import Derived.Laws.CopyOwn
import Derived.Deep.QuietTactic
import Derived.Laws.AppendOwnNone
import Derived.Laws.MakeOwn
import Derived.Laws.IdiomStrings
import Derived.OrdersHeld
import Derived.Lib.SliceRun
import Derived.ChangeKeysEq
import Derived.Laws.CopyRow
import Derived.Test.YtmbfechiallppaaGreatDoorRows
import Derived.ProofKit
import Derived.OpenShut
import Derived.JoinedCond
import Derived.SliceStrings
import Derived.Test.YtmbfechiallppaaGreatDoorCards
import Derived.Test.YtmbfechiallppaaGreatDoorTie
import Derived.Deep.DeepHandedRow
import Derived.Shelf.Vars
import Derived.Shelf.Strings.Builder1
import Derived.Shelf.Strings.Builder2
import Derived.Shelf.Strings.OnBuilder
import Derived.Shelf.Strings.Trim
import Derived.Shelf.Small.Utf8
import Derived.Shelf.Small.Strs
import Derived.Shelf.Strings.BuilderF
import Derived.Shelf.Strconv.Itoa0
import Derived.Shelf.Strconv.Itoa1
import Derived.Shelf.LaysM
import Derived.Shelf.Strconv.Itoa2
import Derived.Shelf.Strconv.Itoa3
import Derived.Shelf.Strings.Search1
import Derived.Shelf.Strings.Search2
import Derived.Shelf.Strings.Search3
import Derived.Shelf.Strings.Count
import Derived.Shelf.Strings.Shaped
import Derived.Shelf.Strings.LastIndex
import Derived.Shelf.Strings.Prefix
import Derived.Shelf.Strings.Split
import Derived.Shelf.Strings.Replace
import Derived.Shelf.Strings.Runes
import Derived.Shelf.Strings.AsciiSet
import Derived.Shelf.Bits.Mul64
import Derived.Shelf.Strings.Repeat
import Derived.Shelf.Unicode.DecodeSlow
import Derived.Shelf.Unicode.DecodeAny
import Derived.Test.YtmbfechiallppaaGreatDoorProg
import Derived.Lib.LaidU8
import Derived.Lib.AppendStr
import Derived.ArgAppend
import Derived.StillTailTactics
import Derived.RegionTactic
import Derived.ChangeAlike
import Derived.Laws.RangeAny
section
namespace Go.Proofs.YtmbfechiallppaaGreatDoor
open Go Go.RowKit Go.Fw Go.Sx
set_option maxRecDepth 100000
instance : Wide Tryz.prog := ⟨by kernel_rfl⟩
instance : Sc Tryz.prog 3 := ⟨_, Tryz.underlying3, rfl, by kernel_rfl⟩
instance : IntT Tryz.prog 3 .i64 := ⟨Tryz.underlying3⟩
instance : Sc Tryz.prog 4 := ⟨_, Tryz.underlying4, rfl, by kernel_rfl⟩
instance : Sc Tryz.prog 5 := ⟨_, Tryz.underlying5, rfl, by kernel_rfl⟩
instance : IntT Tryz.prog 5 .u8 := ⟨Tryz.underlying5⟩
instance : Sc Tryz.prog 9 := ⟨_, Tryz.underlying9, rfl, by kernel_rfl⟩
instance : StrT Tryz.prog 9 := ⟨Tryz.underlying9⟩
instance : IntT Tryz.prog 21 .i32 := ⟨Tryz.underlying21⟩
instance : Ag Tryz.prog 23 5 := ⟨_, Tryz.underlying23, rfl, by kernel_rfl⟩
instance : FieldAt Tryz.prog 23 0 0 := ⟨_, _, 0, Tryz.underlying23, rfl, rfl, by kernel_rfl⟩
instance : FieldAt Tryz.prog 23 1 1 := ⟨_, _, 0, Tryz.underlying23, rfl, rfl, by kernel_rfl⟩
instance : FieldAt Tryz.prog 23 2 2 := ⟨_, _, 0, Tryz.underlying23, rfl, rfl, by kernel_rfl⟩
instance : FieldAt Tryz.prog 23 3 3 := ⟨_, _, 0, Tryz.underlying23, rfl, rfl, by kernel_rfl⟩
instance : FieldAt Tryz.prog 23 4 4 := ⟨_, _, 0, Tryz.underlying23, rfl, rfl, by kernel_rfl⟩
instance : OffsT Tryz.prog 23 [(0, 1), (1, 1), (2, 1), (3, 1), (4, 1)] [.int .i64 0, .int .i64 0, .int .i64 0, .string .empty, .bool false] := ⟨(([(0, 1), (1, 1), (2, 1), (3, 1), (4, 1)] : List (Nat × Nat)).toArray[·]?), fun _ => by kernel_rfl, fun i p h => by simpa using h⟩
instance : ZeroT Tryz.prog 23 [.int .i64 0, .int .i64 0, .int .i64 0, .string .empty, .bool false] := ⟨_, show still Tryz.prog (zeroValue 23) = some (.agg (List.toArray [.int .i64 0, .int .i64 0, .int .i64 0, .string .empty, .bool false])) by kernel_rfl, .agg _⟩
instance : Ag Tryz.prog 25 5 := ⟨_, Tryz.underlying25, rfl, by kernel_rfl⟩
instance : FieldAt Tryz.prog 25 0 0 := ⟨_, _, 0, Tryz.underlying25, rfl, rfl, by kernel_rfl⟩
instance : FieldAt Tryz.prog 25 1 1 := ⟨_, _, 0, Tryz.underlying25, rfl, rfl, by kernel_rfl⟩
instance : FieldAt Tryz.prog 25 2 2 := ⟨_, _, 0, Tryz.underlying25, rfl, rfl, by kernel_rfl⟩
instance : FieldAt Tryz.prog 25 3 3 := ⟨_, _, 0, Tryz.underlying25, rfl, rfl, by kernel_rfl⟩
instance : FieldAt Tryz.prog 25 4 4 := ⟨_, _, 0, Tryz.underlying25, rfl, rfl, by kernel_rfl⟩
instance : OffsT Tryz.prog 25 [(0, 1), (1, 1), (2, 1), (3, 1), (4, 1)] [.int .i64 0, .int .i64 0, .string .empty, .string .empty, .string .empty] := ⟨(([(0, 1), (1, 1), (2, 1), (3, 1), (4, 1)] : List (Nat × Nat)).toArray[·]?), fun _ => by kernel_rfl, fun i p h => by simpa using h⟩
instance : ZeroT Tryz.prog 25 [.int .i64 0, .int .i64 0, .string .empty, .string .empty, .string .empty] := ⟨_, show still Tryz.prog (zeroValue 25) = some (.agg (List.toArray [.int .i64 0, .int .i64 0, .string .empty, .string .empty, .string .empty])) by kernel_rfl, .agg _⟩
instance : Sc Tryz.prog 26 := ⟨_, Tryz.underlying26, rfl, by kernel_rfl⟩
instance : SliceT Tryz.prog 26 104 4 32 := ⟨Tryz.underlying26, by decide, by decide, .agg #[.int .i64 0, .int .i64 0, .int .i64 0, .int .i64 0], by kernel_rfl, by kernel_rfl⟩
instance : Ag Tryz.prog 28 3 := ⟨_, Tryz.underlying28, rfl, by kernel_rfl⟩
instance : FieldAt Tryz.prog 28 0 0 := ⟨_, _, 0, Tryz.underlying28, rfl, rfl, by kernel_rfl⟩
instance : FieldAt Tryz.prog 28 1 1 := ⟨_, _, 0, Tryz.underlying28, rfl, rfl, by kernel_rfl⟩
instance : FieldAt Tryz.prog 28 2 2 := ⟨_, _, 0, Tryz.underlying28, rfl, rfl, by kernel_rfl⟩
instance : OffsT Tryz.prog 28 [(0, 1), (1, 1), (2, 1)] [.int .i64 0, .int .i64 0, .slice none 0 0] := ⟨(([(0, 1), (1, 1), (2, 1)] : List (Nat × Nat)).toArray[·]?), fun _ => by kernel_rfl, fun i p h => by simpa using h⟩
instance : ZeroT Tryz.prog 28 [.int .i64 0, .int .i64 0, .slice none 0 0] := ⟨_, show still Tryz.prog (zeroValue 28) = some (.agg (List.toArray [.int .i64 0, .int .i64 0, .slice none 0 0])) by kernel_rfl, .agg _⟩
instance : Ag Tryz.prog 30 3 := ⟨_, Tryz.underlying30, rfl, by kernel_rfl⟩
instance : FieldAt Tryz.prog 30 0 0 := ⟨_, _, 0, Tryz.underlying30, rfl, rfl, by kernel_rfl⟩
instance : FieldAt Tryz.prog 30 1 1 := ⟨_, _, 0, Tryz.underlying30, rfl, rfl, by kernel_rfl⟩
instance : FieldAt Tryz.prog 30 2 2 := ⟨_, _, 0, Tryz.underlying30, rfl, rfl, by kernel_rfl⟩
instance : OffsT Tryz.prog 30 [(0, 1), (1, 1), (2, 1)] [.int .i64 0, .int .i64 0, .int .i64 0] := ⟨(([(0, 1), (1, 1), (2, 1)] : List (Nat × Nat)).toArray[·]?), fun _ => by kernel_rfl, fun i p h => by simpa using h⟩
instance : ZeroT Tryz.prog 30 [.int .i64 0, .int .i64 0, .int .i64 0] := ⟨_, show still Tryz.prog (zeroValue 30) = some (.agg (List.toArray [.int .i64 0, .int .i64 0, .int .i64 0])) by kernel_rfl, .agg _⟩
instance : Sc Tryz.prog 31 := ⟨_, Tryz.underlying31, rfl, by kernel_rfl⟩
instance : Ag Tryz.prog 32 4 := ⟨_, Tryz.underlying32, rfl, by kernel_rfl⟩
instance : ArrT Tryz.prog 32 4 31 1 := ⟨Tryz.underlying32, by kernel_rfl⟩
instance : OffsT Tryz.prog 32 (arrOffs 4 1) [.int .u64 0, .int .u64 0, .int .u64 0, .int .u64 0] := ⟨fun i => some (i * 1, 1), fun _ => by kernel_rfl, arrOffs_at 4 1⟩
instance : ZeroT Tryz.prog 32 [.int .u64 0, .int .u64 0, .int .u64 0, .int .u64 0] := ⟨_, show still Tryz.prog (zeroValue 32) = some (.agg (List.toArray [.int .u64 0, .int .u64 0, .int .u64 0, .int .u64 0])) by kernel_rfl, .agg _⟩
instance : Ag Tryz.prog 34 4 := ⟨_, Tryz.underlying34, rfl, by kernel_rfl⟩
instance : FieldAt Tryz.prog 34 0 0 := ⟨_, _, 3, Tryz.underlying34, rfl, rfl, by kernel_rfl⟩
instance : ZeroT Tryz.prog 34 [.int .u64 0, .int .u64 0, .int .u64 0, .int .u64 0] := ⟨_, show still Tryz.prog (zeroValue 34) = some (.agg (List.toArray [.int .u64 0, .int .u64 0, .int .u64 0, .int .u64 0])) by kernel_rfl, .agg _⟩
instance : Ag Tryz.prog 35 2 := ⟨_, Tryz.underlying35, rfl, by kernel_rfl⟩
instance : ArrT Tryz.prog 35 2 3 1 := ⟨Tryz.underlying35, by kernel_rfl⟩
instance : OffsT Tryz.prog 35 (arrOffs 2 1) [.int .i64 0, .int .i64 0] := ⟨fun i => some (i * 1, 1), fun _ => by kernel_rfl, arrOffs_at 2 1⟩
instance : ZeroT Tryz.prog 35 [.int .i64 0, .int .i64 0] := ⟨_, show still Tryz.prog (zeroValue 35) = some (.agg (List.toArray [.int .i64 0, .int .i64 0])) by kernel_rfl, .agg _⟩
instance : FieldAt Tryz.prog 37 0 0 := ⟨_, _, 0, Tryz.underlying37, rfl, rfl, by kernel_rfl⟩
instance : FieldAt Tryz.prog 37 1 1 := ⟨_, _, 0, Tryz.underlying37, rfl, rfl, by kernel_rfl⟩
instance : FieldAt Tryz.prog 37 2 2 := ⟨_, _, 2, Tryz.underlying37, rfl, rfl, by kernel_rfl⟩
instance : FieldAt Tryz.prog 37 4 6 := ⟨_, _, 1, Tryz.underlying37, rfl, rfl, by kernel_rfl⟩
instance : FieldAt Tryz.prog 37 5 8 := ⟨_, _, 0, Tryz.underlying37, rfl, rfl, by kernel_rfl⟩
instance : OffsT Tryz.prog 37 [(0, 1), (1, 1), (2, 3), (5, 1), (6, 2), (8, 1)] [.int .i64 0, .int .i64 0, .int .i64 0, .int .i64 0, .int .i64 0, .bool false, .int .i64 0, .int .i64 0, .int .i64 0] := ⟨(([(0, 1), (1, 1), (2, 3), (5, 1), (6, 2), (8, 1)] : List (Nat × Nat)).toArray[·]?), fun _ => by kernel_rfl, fun i p h => by simpa using h⟩
instance : Sc Tryz.prog 38 := ⟨_, Tryz.underlying38, rfl, by kernel_rfl⟩
instance : SliceT Tryz.prog 38 126 1 24 := ⟨Tryz.underlying38, by decide, by decide, .agg #[.slice none 0 0], by kernel_rfl, by kernel_rfl⟩
instance : Ag Tryz.prog 40 33 := ⟨_, Tryz.underlying40, rfl, by kernel_rfl⟩
instance : FieldAt Tryz.prog 40 0 0 := ⟨_, _, 2, Tryz.underlying40, rfl, rfl, by kernel_rfl⟩
instance : FieldAt Tryz.prog 40 1 3 := ⟨_, _, 0, Tryz.underlying40, rfl, rfl, by kernel_rfl⟩
instance : FieldAt Tryz.prog 40 2 4 := ⟨_, _, 0, Tryz.underlying40, rfl, rfl, by kernel_rfl⟩
instance : FieldAt Tryz.prog 40 3 5 := ⟨_, _, 0, Tryz.underlying40, rfl, rfl, by kernel_rfl⟩
instance : FieldAt Tryz.prog 40 4 6 := ⟨_, _, 0, Tryz.underlying40, rfl, rfl, by kernel_rfl⟩
instance : FieldAt Tryz.prog 40 5 7 := ⟨_, _, 0, Tryz.underlying40, rfl, rfl, by kernel_rfl⟩
instance : FieldAt Tryz.prog 40 6 8 := ⟨_, _, 2, Tryz.underlying40, rfl, rfl, by kernel_rfl⟩
instance : FieldAt Tryz.prog 40 7 11 := ⟨_, _, 0, Tryz.underlying40, rfl, rfl, by kernel_rfl⟩
instance : FieldAt Tryz.prog 40 9 16 := ⟨_, _, 1, Tryz.underlying40, rfl, rfl, by kernel_rfl⟩
instance : FieldAt Tryz.prog 40 10 18 := ⟨_, _, 0, Tryz.underlying40, rfl, rfl, by kernel_rfl⟩
instance : FieldAt Tryz.prog 40 11 19 := ⟨_, _, 8, Tryz.underlying40, rfl, rfl, by kernel_rfl⟩
instance : FieldAt Tryz.prog 40 12 28 := ⟨_, _, 2, Tryz.underlying40, rfl, rfl, by kernel_rfl⟩
instance : FieldAt Tryz.prog 40 13 31 := ⟨_, _, 0, Tryz.underlying40, rfl, rfl, by kernel_rfl⟩
instance : FieldAt Tryz.prog 40 14 32 := ⟨_, _, 0, Tryz.underlying40, rfl, rfl, by kernel_rfl⟩
instance : OffsT Tryz.prog 40 [(0, 3), (3, 1), (4, 1), (5, 1), (6, 1), (7, 1), (8, 3), (11, 1), (12, 4), (16, 2), (18, 1), (19, 9), (28, 3), (31, 1), (32, 1)] (.int .i64 0 :: .int .i64 0 :: .slice none 0 0 :: .int .i64 0 :: .int .i64 0 :: .bool false :: .int .i64 0 :: .int .i64 0 :: .int .i64 0 :: .int .i64 0 :: .int .i64 0 :: .int .i64 0 :: .int .u64 0 :: .int .u64 0 :: .int .u64 0 :: .int .u64 0 :: .int .i64 0 :: .int .i64 0 :: .int .i64 0 :: .int .i64 0 :: .int .i64 0 :: .int .i64 0 :: .int .i64 0 :: .int .i64 0 :: .bool false :: .int .i64 0 :: .int .i64 0 :: .int .i64 0 :: .int .i64 0 :: .int .i64 0 :: .slice none 0 0 :: .string .empty :: .slice none 0 0 :: []) := ⟨(([(0, 3), (3, 1), (4, 1), (5, 1), (6, 1), (7, 1), (8, 3), (11, 1), (12, 4), (16, 2), (18, 1), (19, 9), (28, 3), (31, 1), (32, 1)] : List (Nat × Nat)).toArray[·]?), fun _ => by kernel_rfl, fun i p h => by simpa using h⟩
instance : ZeroT Tryz.prog 40 (.int .i64 0 :: .int .i64 0 :: .slice none 0 0 :: .int .i64 0 :: .int .i64 0 :: .bool false :: .int .i64 0 :: .int .i64 0 :: .int .i64 0 :: .int .i64 0 :: .int .i64 0 :: .int .i64 0 :: .int .u64 0 :: .int .u64 0 :: .int .u64 0 :: .int .u64 0 :: .int .i64 0 :: .int .i64 0 :: .int .i64 0 :: .int .i64 0 :: .int .i64 0 :: .int .i64 0 :: .int .i64 0 :: .int .i64 0 :: .bool false :: .int .i64 0 :: .int .i64 0 :: .int .i64 0 :: .int .i64 0 :: .int .i64 0 :: .slice none 0 0 :: .string .empty :: .slice none 0 0 :: []) := ⟨_, show still Tryz.prog (zeroValue 40) = some (.agg (List.toArray (.int .i64 0 :: .int .i64 0 :: .slice none 0 0 :: .int .i64 0 :: .int .i64 0 :: .bool false :: .int .i64 0 :: .int .i64 0 :: .int .i64 0 :: .int .i64 0 :: .int .i64 0 :: .int .i64 0 :: .int .u64 0 :: .int .u64 0 :: .int .u64 0 :: .int .u64 0 :: .int .i64 0 :: .int .i64 0 :: .int .i64 0 :: .int .i64 0 :: .int .i64 0 :: .int .i64 0 :: .int .i64 0 :: .int .i64 0 :: .bool false :: .int .i64 0 :: .int .i64 0 :: .int .i64 0 :: .int .i64 0 :: .int .i64 0 :: .slice none 0 0 :: .string .empty :: .slice none 0 0 :: []))) by kernel_rfl, .agg _⟩
instance : Ag Tryz.prog 41 256 := ⟨_, Tryz.underlying41, rfl, by kernel_rfl⟩
instance : ArrT Tryz.prog 41 256 5 1 := ⟨Tryz.underlying41, by kernel_rfl⟩
instance : Ag Tryz.prog 43 520 := ⟨_, Tryz.underlying43, rfl, by kernel_rfl⟩
instance : FieldAt Tryz.prog 43 0 0 := ⟨_, _, 255, Tryz.underlying43, rfl, rfl, by kernel_rfl⟩
instance : FieldAt Tryz.prog 43 1 256 := ⟨_, _, 255, Tryz.underlying43, rfl, rfl, by kernel_rfl⟩
instance : FieldAt Tryz.prog 43 2 512 := ⟨_, _, 3, Tryz.underlying43, rfl, rfl, by kernel_rfl⟩
instance : FieldAt Tryz.prog 43 3 516 := ⟨_, _, 3, Tryz.underlying43, rfl, rfl, by kernel_rfl⟩
instance : Sc Tryz.prog 44 := ⟨_, Tryz.underlying44, rfl, by kernel_rfl⟩
instance : SliceT Tryz.prog 44 9 1 16 := ⟨Tryz.underlying44, by decide, by decide, .string .empty, by kernel_rfl, by kernel_rfl⟩
instance : Ag Tryz.prog 46 2 := ⟨_, Tryz.underlying46, rfl, by kernel_rfl⟩
instance : FieldAt Tryz.prog 46 0 0 := ⟨_, _, 0, Tryz.underlying46, rfl, rfl, by kernel_rfl⟩
instance : FieldAt Tryz.prog 46 1 1 := ⟨_, _, 0, Tryz.underlying46, rfl, rfl, by kernel_rfl⟩
instance : OffsT Tryz.prog 46 [(0, 1), (1, 1)] [.slice none 0 0, .int .i64 0] := ⟨(([(0, 1), (1, 1)] : List (Nat × Nat)).toArray[·]?), fun _ => by kernel_rfl, fun i p h => by simpa using h⟩
instance : Sc Tryz.prog 47 := ⟨_, Tryz.underlying47, rfl, by kernel_rfl⟩
instance : SliceT Tryz.prog 47 143 4 40 := ⟨Tryz.underlying47, by decide, by decide, .agg #[.string .empty, .string .empty, .bool false, .bool false], by kernel_rfl, by kernel_rfl⟩
instance : Ag Tryz.prog 48 19 := ⟨_, Tryz.underlying48, rfl, by kernel_rfl⟩
instance : ArrT Tryz.prog 48 19 5 1 := ⟨Tryz.underlying48, by kernel_rfl⟩
instance : Ag Tryz.prog 50 38 := ⟨_, Tryz.underlying50, rfl, by kernel_rfl⟩
instance : FieldAt Tryz.prog 50 0 0 := ⟨_, _, 18, Tryz.underlying50, rfl, rfl, by kernel_rfl⟩
instance : FieldAt Tryz.prog 50 1 19 := ⟨_, _, 18, Tryz.underlying50, rfl, rfl, by kernel_rfl⟩
instance : Ag Tryz.prog 51 4 := ⟨_, Tryz.underlying51, rfl, by kernel_rfl⟩
instance : FieldAt Tryz.prog 51 0 0 := ⟨_, _, 3, Tryz.underlying51, rfl, rfl, by kernel_rfl⟩
instance : Ag Tryz.prog 53 2 := ⟨_, Tryz.underlying53, rfl, by kernel_rfl⟩
instance : FieldAt Tryz.prog 53 0 0 := ⟨_, _, 0, Tryz.underlying53, rfl, rfl, by kernel_rfl⟩
instance : FieldAt Tryz.prog 53 1 1 := ⟨_, _, 0, Tryz.underlying53, rfl, rfl, by kernel_rfl⟩
instance : OffsT Tryz.prog 53 [(0, 1), (1, 1)] [.string .empty, .bool false] := ⟨(([(0, 1), (1, 1)] : List (Nat × Nat)).toArray[·]?), fun _ => by kernel_rfl, fun i p h => by simpa using h⟩
instance : ZeroT Tryz.prog 53 [.string .empty, .bool false] := ⟨_, show still Tryz.prog (zeroValue 53) = some (.agg (List.toArray [.string .empty, .bool false])) by kernel_rfl, .agg _⟩
instance : Ag Tryz.prog 55 613 := ⟨_, Tryz.underlying55, rfl, by kernel_rfl⟩
instance : FieldAt Tryz.prog 55 0 0 := ⟨_, _, 4, Tryz.underlying55, rfl, rfl, by kernel_rfl⟩
instance : FieldAt Tryz.prog 55 1 5 := ⟨_, _, 0, Tryz.underlying55, rfl, rfl, by kernel_rfl⟩
instance : FieldAt Tryz.prog 55 2 6 := ⟨_, _, 0, Tryz.underlying55, rfl, rfl, by kernel_rfl⟩
instance : FieldAt Tryz.prog 55 3 7 := ⟨_, _, 4, Tryz.underlying55, rfl, rfl, by kernel_rfl⟩
instance : FieldAt Tryz.prog 55 4 12 := ⟨_, _, 32, Tryz.underlying55, rfl, rfl, by kernel_rfl⟩
instance : FieldAt Tryz.prog 55 5 45 := ⟨_, _, 519, Tryz.underlying55, rfl, rfl, by kernel_rfl⟩
instance : FieldAt Tryz.prog 55 6 565 := ⟨_, _, 1, Tryz.underlying55, rfl, rfl, by kernel_rfl⟩
instance : FieldAt Tryz.prog 55 7 567 := ⟨_, _, 0, Tryz.underlying55, rfl, rfl, by kernel_rfl⟩
instance : FieldAt Tryz.prog 55 8 568 := ⟨_, _, 37, Tryz.underlying55, rfl, rfl, by kernel_rfl⟩
instance : FieldAt Tryz.prog 55 9 606 := ⟨_, _, 3, Tryz.underlying55, rfl, rfl, by kernel_rfl⟩
instance : FieldAt Tryz.prog 55 10 610 := ⟨_, _, 1, Tryz.underlying55, rfl, rfl, by kernel_rfl⟩
instance : FieldAt Tryz.prog 55 11 612 := ⟨_, _, 0, Tryz.underlying55, rfl, rfl, by kernel_rfl⟩
instance : Sc Tryz.prog 56 := ⟨_, Tryz.underlying56, rfl, by kernel_rfl⟩
instance : Ag Tryz.prog 60 8 := ⟨_, Tryz.underlying60, rfl, by kernel_rfl⟩
instance : FieldAt Tryz.prog 60 0 0 := ⟨_, _, 3, Tryz.underlying60, rfl, rfl, by kernel_rfl⟩
instance : FieldAt Tryz.prog 60 1 4 := ⟨_, _, 3, Tryz.underlying60, rfl, rfl, by kernel_rfl⟩
instance : OffsT Tryz.prog 60 [(0, 4), (4, 4)] [.int .u64 0, .int .u64 0, .int .u64 0, .int .u64 0, .int .u64 0, .int .u64 0, .int .u64 0, .int .u64 0] := ⟨(([(0, 4), (4, 4)] : List (Nat × Nat)).toArray[·]?), fun _ => by kernel_rfl, fun i p h => by simpa using h⟩
instance : Ag Tryz.prog 64 3 := ⟨_, Tryz.underlying64, rfl, by kernel_rfl⟩
instance : FieldAt Tryz.prog 64 0 0 := ⟨_, _, 0, Tryz.underlying64, rfl, rfl, by kernel_rfl⟩
instance : FieldAt Tryz.prog 64 1 1 := ⟨_, _, 0, Tryz.underlying64, rfl, rfl, by kernel_rfl⟩
instance : FieldAt Tryz.prog 64 2 2 := ⟨_, _, 0, Tryz.underlying64, rfl, rfl, by kernel_rfl⟩
instance : OffsT Tryz.prog 64 [(0, 1), (1, 1), (2, 1)] [.int .i64 0, .int .i64 0, .int .i64 0] := ⟨(([(0, 1), (1, 1), (2, 1)] : List (Nat × Nat)).toArray[·]?), fun _ => by kernel_rfl, fun i p h => by simpa using h⟩
instance : Sc Tryz.prog 67 := ⟨_, Tryz.underlying67, rfl, by kernel_rfl⟩
instance : SliceT Tryz.prog 67 3 1 8 := ⟨Tryz.underlying67, by decide, by decide, .int .i64 0, by kernel_rfl, by kernel_rfl⟩
instance : Ag Tryz.prog 69 16 := ⟨_, Tryz.underlying69, rfl, by kernel_rfl⟩
instance : FieldAt Tryz.prog 69 0 0 := ⟨_, _, 0, Tryz.underlying69, rfl, rfl, by kernel_rfl⟩
instance : FieldAt Tryz.prog 69 1 1 := ⟨_, _, 0, Tryz.underlying69, rfl, rfl, by kernel_rfl⟩
instance : FieldAt Tryz.prog 69 2 2 := ⟨_, _, 2, Tryz.underlying69, rfl, rfl, by kernel_rfl⟩
instance : OffsT Tryz.prog 69 [(0, 1), (1, 1), (2, 3), (5, 5), (10, 1), (11, 1), (12, 1), (13, 1), (14, 1), (15, 1)] [.int .i64 0, .string .empty, .int .i64 0, .int .i64 0, .int .i64 0, .int .i64 0, .int .i64 0, .int .i64 0, .int .i64 0, .bool false, .slice none 0 0, .int .i64 0, .int .i64 0, .bool false, .int .i64 0, .bool false] := ⟨(([(0, 1), (1, 1), (2, 3), (5, 5), (10, 1), (11, 1), (12, 1), (13, 1), (14, 1), (15, 1)] : List (Nat × Nat)).toArray[·]?), fun _ => by kernel_rfl, fun i p h => by simpa using h⟩
instance : ZeroT Tryz.prog 69 [.int .i64 0, .string .empty, .int .i64 0, .int .i64 0, .int .i64 0, .int .i64 0, .int .i64 0, .int .i64 0, .int .i64 0, .bool false, .slice none 0 0, .int .i64 0, .int .i64 0, .bool false, .int .i64 0, .bool false] := ⟨_, show still Tryz.prog (zeroValue 69) = some (.agg (List.toArray [.int .i64 0, .string .empty, .int .i64 0, .int .i64 0, .int .i64 0, .int .i64 0, .int .i64 0, .int .i64 0, .int .i64 0, .bool false, .slice none 0 0, .int .i64 0, .int .i64 0, .bool false, .int .i64 0, .bool false])) by kernel_rfl, .agg _⟩
instance : FieldAt Tryz.prog 101 0 0 := ⟨_, _, 612, Tryz.underlying101, rfl, rfl, by kernel_rfl⟩
instance : FieldAt Tryz.prog 101 1 613 := ⟨_, _, 0, Tryz.underlying101, rfl, rfl, by kernel_rfl⟩
instance : Ag Tryz.prog 104 4 := ⟨_, Tryz.underlying104, rfl, by kernel_rfl⟩
instance : FieldAt Tryz.prog 104 0 0 := ⟨_, _, 0, Tryz.underlying104, rfl, rfl, by kernel_rfl⟩
instance : FieldAt Tryz.prog 104 1 1 := ⟨_, _, 2, Tryz.underlying104, rfl, rfl, by kernel_rfl⟩
instance : OffsT Tryz.prog 104 [(0, 1), (1, 3)] [.int .i64 0, .int .i64 0, .int .i64 0, .int .i64 0] := ⟨(([(0, 1), (1, 3)] : List (Nat × Nat)).toArray[·]?), fun _ => by kernel_rfl, fun i p h => by simpa using h⟩
instance : ZeroT Tryz.prog 104 [.int .i64 0, .int .i64 0, .int .i64 0, .int .i64 0] := ⟨_, show still Tryz.prog (zeroValue 104) = some (.agg (List.toArray [.int .i64 0, .int .i64 0, .int .i64 0, .int .i64 0])) by kernel_rfl, .agg _⟩
instance : Sc Tryz.prog 113 := ⟨_, Tryz.underlying113, rfl, by kernel_rfl⟩
instance : SliceT Tryz.prog 113 5 1 1 := ⟨Tryz.underlying113, by decide, by decide, .int .u8 0, by kernel_rfl, by kernel_rfl⟩
instance : Sc Tryz.prog 119 := ⟨_, Tryz.underlying119, rfl, by kernel_rfl⟩
instance : SliceT Tryz.prog 119 174 6 80 := ⟨Tryz.underlying119, by decide, by decide, .agg #[.int .i64 0, .int .i64 0, .int .i64 0, .string .empty, .slice none 0 0, .string .empty], by kernel_rfl, by kernel_rfl⟩
instance : Ag Tryz.prog 126 1 := ⟨_, Tryz.underlying126, rfl, by kernel_rfl⟩
instance : FieldAt Tryz.prog 126 0 0 := ⟨_, _, 0, Tryz.underlying126, rfl, rfl, by kernel_rfl⟩
instance : OffsT Tryz.prog 126 [(0, 1)] [.slice none 0 0] := ⟨(([(0, 1)] : List (Nat × Nat)).toArray[·]?), fun _ => by kernel_rfl, fun i p h => by simpa using h⟩
instance : ZeroT Tryz.prog 126 [.slice none 0 0] := ⟨_, show still Tryz.prog (zeroValue 126) = some (.agg (List.toArray [.slice none 0 0])) by kernel_rfl, .agg _⟩
instance : Ag Tryz.prog 143 4 := ⟨_, Tryz.underlying143, rfl, by kernel_rfl⟩
instance : FieldAt Tryz.prog 143 0 0 := ⟨_, _, 0, Tryz.underlying143, rfl, rfl, by kernel_rfl⟩
instance : FieldAt Tryz.prog 143 1 1 := ⟨_, _, 0, Tryz.underlying143, rfl, rfl, by kernel_rfl⟩
instance : FieldAt Tryz.prog 143 2 2 := ⟨_, _, 0, Tryz.underlying143, rfl, rfl, by kernel_rfl⟩
instance : FieldAt Tryz.prog 143 3 3 := ⟨_, _, 0, Tryz.underlying143, rfl, rfl, by kernel_rfl⟩
instance : ZeroT Tryz.prog 143 [.string .empty, .string .empty, .bool false, .bool false] := ⟨_, show still Tryz.prog (zeroValue 143) = some (.agg (List.toArray [.string .empty, .string .empty, .bool false, .bool false])) by kernel_rfl, .agg _⟩
instance : ArrT Tryz.prog 152 9 56 1 := ⟨Tryz.underlying152, by kernel_rfl⟩
instance : OffsT Tryz.prog 152 (arrOffs 9 1) [.int .i64 0, .int .i64 0, .int .i64 0, .int .i64 0, .int .i64 0, .int .i64 0, .int .i64 0, .int .i64 0, .int .i64 0] := ⟨fun i => some (i * 1, 1), fun _ => by kernel_rfl, arrOffs_at 9 1⟩
instance : FieldAt Tryz.prog 167 0 0 := ⟨_, _, 4, Tryz.underlying167, rfl, rfl, by kernel_rfl⟩
instance : FieldAt Tryz.prog 167 1 5 := ⟨_, _, 0, Tryz.underlying167, rfl, rfl, by kernel_rfl⟩
instance : OffsT Tryz.prog 167 [(0, 5), (5, 1)] [.int .i64 0, .int .i64 0, .string .empty, .string .empty, .string .empty, .slice none 0 0] := ⟨(([(0, 5), (5, 1)] : List (Nat × Nat)).toArray[·]?), fun _ => by kernel_rfl, fun i p h => by simpa using h⟩
instance : FieldAt Tryz.prog 172 0 0 := ⟨_, _, 32, Tryz.underlying172, rfl, rfl, by kernel_rfl⟩
instance : FieldAt Tryz.prog 172 1 33 := ⟨_, _, 0, Tryz.underlying172, rfl, rfl, by kernel_rfl⟩
instance : OffsT Tryz.prog 172 [(0, 33), (33, 1)] (.int .i64 0 :: .int .i64 0 :: .slice none 0 0 :: .int .i64 0 :: .int .i64 0 :: .bool false :: .int .i64 0 :: .int .i64 0 :: .int .i64 0 :: .int .i64 0 :: .int .i64 0 :: .int .i64 0 :: .int .u64 0 :: .int .u64 0 :: .int .u64 0 :: .int .u64 0 :: .int .i64 0 :: .int .i64 0 :: .int .i64 0 :: .int .i64 0 :: .int .i64 0 :: .int .i64 0 :: .int .i64 0 :: .int .i64 0 :: .bool false :: .int .i64 0 :: .int .i64 0 :: .int .i64 0 :: .int .i64 0 :: .int .i64 0 :: .slice none 0 0 :: .string .empty :: .slice none 0 0 :: .string .empty :: []) := ⟨(([(0, 33), (33, 1)] : List (Nat × Nat)).toArray[·]?), fun _ => by kernel_rfl, fun i p h => by simpa using h⟩
instance : Ag Tryz.prog 174 6 := ⟨_, Tryz.underlying174, rfl, by kernel_rfl⟩
instance : FieldAt Tryz.prog 174 0 0 := ⟨_, _, 0, Tryz.underlying174, rfl, rfl, by kernel_rfl⟩
instance : FieldAt Tryz.prog 174 1 1 := ⟨_, _, 0, Tryz.underlying174, rfl, rfl, by kernel_rfl⟩
instance : FieldAt Tryz.prog 174 4 4 := ⟨_, _, 0, Tryz.underlying174, rfl, rfl, by kernel_rfl⟩
instance : FieldAt Tryz.prog 174 5 5 := ⟨_, _, 0, Tryz.underlying174, rfl, rfl, by kernel_rfl⟩
instance : OffsT Tryz.prog 174 [(0, 1), (1, 1), (2, 1), (3, 1), (4, 1), (5, 1)] [.int .i64 0, .int .i64 0, .int .i64 0, .string .empty, .slice none 0 0, .string .empty] := ⟨(([(0, 1), (1, 1), (2, 1), (3, 1), (4, 1), (5, 1)] : List (Nat × Nat)).toArray[·]?), fun _ => by kernel_rfl, fun i p h => by simpa using h⟩
instance : ZeroT Tryz.prog 174 [.int .i64 0, .int .i64 0, .int .i64 0, .string .empty, .slice none 0 0, .string .empty] := ⟨_, show still Tryz.prog (zeroValue 174) = some (.agg (List.toArray [.int .i64 0, .int .i64 0, .int .i64 0, .string .empty, .slice none 0 0, .string .empty])) by kernel_rfl, .agg _⟩
instance : ArrT Tryz.prog 195 2 41 256 := ⟨Tryz.underlying195, by kernel_rfl⟩
instance : Sc Tryz.prog 196 := ⟨_, Tryz.underlying196, rfl, by kernel_rfl⟩
instance : SliceT Tryz.prog 196 200 4 40 := ⟨Tryz.underlying196, by decide, by decide, .agg #[.int .i64 0, .int .i64 0, .int .i64 0, .string .empty], by kernel_rfl, by kernel_rfl⟩
instance : Ag Tryz.prog 200 4 := ⟨_, Tryz.underlying200, rfl, by kernel_rfl⟩
instance : FieldAt Tryz.prog 200 0 0 := ⟨_, _, 0, Tryz.underlying200, rfl, rfl, by kernel_rfl⟩
instance : FieldAt Tryz.prog 200 1 1 := ⟨_, _, 0, Tryz.underlying200, rfl, rfl, by kernel_rfl⟩
instance : FieldAt Tryz.prog 200 2 2 := ⟨_, _, 0, Tryz.underlying200, rfl, rfl, by kernel_rfl⟩
instance : FieldAt Tryz.prog 200 3 3 := ⟨_, _, 0, Tryz.underlying200, rfl, rfl, by kernel_rfl⟩
instance : OffsT Tryz.prog 200 [(0, 1), (1, 1), (2, 1), (3, 1)] [.int .i64 0, .int .i64 0, .int .i64 0, .string .empty] := ⟨(([(0, 1), (1, 1), (2, 1), (3, 1)] : List (Nat × Nat)).toArray[·]?), fun _ => by kernel_rfl, fun i p h => by simpa using h⟩
instance : ZeroT Tryz.prog 200 [.int .i64 0, .int .i64 0, .int .i64 0, .string .empty] := ⟨_, show still Tryz.prog (zeroValue 200) = some (.agg (List.toArray [.int .i64 0, .int .i64 0, .int .i64 0, .string .empty])) by kernel_rfl, .agg _⟩
instance : IntT Tryz.prog 213 .u64 := ⟨Tryz.underlying213⟩
instance : FieldAt Tryz.prog 245 0 0 := ⟨_, _, 4, Tryz.underlying245, rfl, rfl, by kernel_rfl⟩
instance : FieldAt Tryz.prog 245 1 5 := ⟨_, _, 0, Tryz.underlying245, rfl, rfl, by kernel_rfl⟩
instance : FieldAt Tryz.prog 245 2 6 := ⟨_, _, 0, Tryz.underlying245, rfl, rfl, by kernel_rfl⟩
instance : FieldAt Tryz.prog 245 3 7 := ⟨_, _, 0, Tryz.underlying245, rfl, rfl, by kernel_rfl⟩
instance : OffsT Tryz.prog 245 [(0, 5), (5, 1), (6, 1), (7, 1)] [.int .i64 0, .int .i64 0, .int .i64 0, .string .empty, .bool false, .slice none 0 0, .slice none 0 0, .slice none 0 0] := ⟨(([(0, 5), (5, 1), (6, 1), (7, 1)] : List (Nat × Nat)).toArray[·]?), fun _ => by kernel_rfl, fun i p h => by simpa using h⟩
instance : FieldAt Tryz.prog 256 0 0 := ⟨_, _, 0, Tryz.underlying256, rfl, rfl, by kernel_rfl⟩
instance : FieldAt Tryz.prog 256 1 1 := ⟨_, _, 0, Tryz.underlying256, rfl, rfl, by kernel_rfl⟩
instance : FieldAt Tryz.prog 256 2 2 := ⟨_, _, 37, Tryz.underlying256, rfl, rfl, by kernel_rfl⟩
instance : FieldAt Tryz.prog 256 3 40 := ⟨_, _, 3, Tryz.underlying256, rfl, rfl, by kernel_rfl⟩
instance : FieldAt Tryz.prog 256 4 44 := ⟨_, _, 0, Tryz.underlying256, rfl, rfl, by kernel_rfl⟩
instance : FieldAt Tryz.prog 256 5 45 := ⟨_, _, 0, Tryz.underlying256, rfl, rfl, by kernel_rfl⟩
instance : Ag Tryz.prog 286 256 := ⟨_, Tryz.underlying286, rfl, by kernel_rfl⟩
instance : ArrT Tryz.prog 286 256 4 1 := ⟨Tryz.underlying286, by kernel_rfl⟩
instance : SliceT Tryz.prog 337 26 1 24 := ⟨Tryz.underlying337, by decide, by decide, .slice none 0 0, by kernel_rfl, by kernel_rfl⟩
end Go.Proofs.YtmbfechiallppaaGreatDoor
end
section
namespace Go.Proofs.YtmbfechiallppaaGreatDoor
open Go Go.RowKit Go.Fw Go.Sx
theorem maxLen_cell (W : World) (hS : W.ShapedOpen Tryz.prog) : ∃ m, ∀ H w, Holds ⟨W.heap.size, W⟩ H w → w.cell? ⟨2, 0, none⟩ = some (.int .i64 m) := by
  obtain ⟨m, hm⟩ := cell_of_shapedOpen_int (P := Tryz.prog) (w := W) (g := 2) (t := 3) (zero := #[.int .i64 0]) (k := .i64) hS (by decide +kernel) (by kernel_rfl) rfl (by kernel_rfl) (by kernel_rfl) Tryz.underlying3
  refine ⟨m, fun H w hw => ?_⟩
  have hlt : 2 < W.heap.size := by
    rcases Nat.lt_or_ge 2 W.heap.size with h | h
    · exact h
    · exfalso
      simp [World.cell?, Array.getElem?_eq_none h] at hm
  have e := hw.below.block 2 hlt
  rw [← hm]
  unfold World.cell?
  rw [e]
end Go.Proofs.YtmbfechiallppaaGreatDoor
end
section
namespace Go.Proofs.YtmbfechiallppaaGreatDoor
open Go.Shelf
def Tryz.lays162_ren : Go.Shelf.Ren := ⟨fun | 162 => 215 | 232 => 196 | 227 => 197 | 234 => 199 | 236 => 201 | 228 => 244 | 271 => 246 | 151 => 245 | 120 => 269 | 197 => 33 | 152 => 268 | 260 => 70 | 137 => 131 | 119 => 275 | 224 => 241 | 225 => 240 | 217 => 184 | 266 => 236 | n => n, fun | 9 => 9 | 4 => 4 | 3 => 3 | 5 => 5 | 117 => 287 | 116 => 286 | 0 => 0 | 124 => 290 | 21 => 21 | 105 => 117 | 46 => 213 | 119 => 41 | 139 => 216 | 138 => 215 | n => n, fun | 3 => 0 | 4 => 1 | n => n⟩
theorem Tryz.lays162 : Go.Proofs.Lays.n162 Tryz.prog Tryz.lays162_ren := {
  mixed := by kernel_rfl
  f119 := Tryz.func275.trans (congrArg some (by kernel_rfl))
  f120 := Tryz.func269.trans (congrArg some (by kernel_rfl))
  f137 := Tryz.func131.trans (congrArg some (by kernel_rfl))
  f151 := Tryz.func245.trans (congrArg some (by kernel_rfl))
  f152 := Tryz.func268.trans (congrArg some (by kernel_rfl))
  f162 := Tryz.func215.trans (congrArg some (by kernel_rfl))
  f197 := Tryz.func33.trans (congrArg some (by kernel_rfl))
  f217 := Tryz.func184.trans (congrArg some (by kernel_rfl))
  f224 := Tryz.func241.trans (congrArg some (by kernel_rfl))
  f225 := Tryz.func240.trans (congrArg some (by kernel_rfl))
  f227 := Tryz.func197.trans (congrArg some (by kernel_rfl))
  f228 := Tryz.func244.trans (congrArg some (by kernel_rfl))
  f232 := Tryz.func196.trans (congrArg some (by kernel_rfl))
  f234 := Tryz.func199.trans (congrArg some (by kernel_rfl))
  f236 := Tryz.func201.trans (congrArg some (by kernel_rfl))
  f260 := Tryz.func70.trans (congrArg some (by kernel_rfl))
  f266 := Tryz.func236.trans (congrArg some (by kernel_rfl))
  f271 := Tryz.func246.trans (congrArg some (by kernel_rfl))
  t0 := Tryz.underlying0
  a0 := Tryz.isAgg0
  z0 := Tryz.sizeOf0
  v0 := Tryz.zeroValue0
  t3 := Tryz.underlying3
  a3 := Tryz.isAgg3
  z3 := Tryz.sizeOf3
  v3 := Tryz.zeroValue3
  t4 := Tryz.underlying4
  a4 := Tryz.isAgg4
  z4 := Tryz.sizeOf4
  v4 := Tryz.zeroValue4
  t5 := Tryz.underlying5
  a5 := Tryz.isAgg5
  z5 := Tryz.sizeOf5
  v5 := Tryz.zeroValue5
  t9 := Tryz.underlying9
  a9 := Tryz.isAgg9
  z9 := Tryz.sizeOf9
  v9 := Tryz.zeroValue9
  t21 := Tryz.underlying21
  a21 := Tryz.isAgg21
  z21 := Tryz.sizeOf21
  v21 := Tryz.zeroValue21
  t46 := Tryz.underlying213
  a46 := Tryz.isAgg213
  z46 := Tryz.sizeOf213
  v46 := Tryz.zeroValue213
  t105 := Tryz.underlying117
  a105 := Tryz.isAgg117
  z105 := Tryz.sizeOf117
  v105 := Tryz.zeroValue117
  t116 := Tryz.underlying286
  a116 := Tryz.isAgg286
  z116 := Tryz.sizeOf286
  t117 := Tryz.underlying287
  a117 := Tryz.isAgg287
  z117 := Tryz.sizeOf287
  v117 := Tryz.zeroValue287
  t119 := Tryz.underlying41
  a119 := Tryz.isAgg41
  z119 := Tryz.sizeOf41
  t124 := Tryz.underlying290
  a124 := Tryz.isAgg290
  z124 := Tryz.sizeOf290
  v124 := Tryz.zeroValue290
  t138 := Tryz.underlying215
  a138 := Tryz.isAgg215
  z138 := Tryz.sizeOf215
  v138 := Tryz.zeroValue215
  t139 := Tryz.underlying216
  a139 := Tryz.isAgg216
  z139 := Tryz.sizeOf216
  v139 := Tryz.zeroValue216
  g3 := by kernel_rfl
  g4 := by kernel_rfl }
open Go.RowKit in
theorem Tryz.strings_TrimRight_one (s : ByteArray) (c : UInt8) (hc : c.toNat < 128) (w : World) (hs : s.size ≤ 9223372036854775807) :
    Calls Tryz.prog 215 #[.string s, .string ⟨#[c]⟩] w fun e w' => e = .returned (.string ⟨(Lib.trimRightB s.data.toList c).toArray⟩) ∧ w' = w := Any.strings_TrimRight_one Tryz.lays162 s c hc w hs
def Tryz.lays149_ren : Go.Shelf.Ren := ⟨fun | 149 => 216 | 222 => 253 | n => n, fun | 9 => 9 | 5 => 5 | 3 => 3 | 4 => 4 | n => n, fun | n => n⟩
theorem Tryz.lays149 : Go.Proofs.Lays.n149 Tryz.prog Tryz.lays149_ren := {
  mixed := by kernel_rfl
  f149 := Tryz.func216.trans (congrArg some (by kernel_rfl))
  f222 := Tryz.func253.trans (congrArg some (by kernel_rfl))
  t3 := Tryz.underlying3
  a3 := Tryz.isAgg3
  z3 := Tryz.sizeOf3
  v3 := Tryz.zeroValue3
  t4 := Tryz.underlying4
  a4 := Tryz.isAgg4
  z4 := Tryz.sizeOf4
  v4 := Tryz.zeroValue4
  t5 := Tryz.underlying5
  a5 := Tryz.isAgg5
  z5 := Tryz.sizeOf5
  v5 := Tryz.zeroValue5
  t9 := Tryz.underlying9
  a9 := Tryz.isAgg9
  z9 := Tryz.sizeOf9
  v9 := Tryz.zeroValue9 }
open Go.RowKit Go.Lib in
theorem Tryz.strings_LastIndexByte (s : ByteArray) (c : Int) (hs : s.size < 4611686018427387904) (w : World) :
    Calls Tryz.prog 216 #[.string s, .int .u8 c] w fun e w' => e = .returned (.int .i64 (Lib.lastIndexByte s c)) ∧ w' = w := Any.strings_LastIndexByte Tryz.lays149 s c hs w
def Tryz.lays146_ren : Go.Shelf.Ren := ⟨fun | 146 => 146 | 221 => 202 | 268 => 247 | 138 => 137 | 143 => 139 | 195 => 188 | 197 => 33 | 218 => 189 | 219 => 192 | 260 => 70 | 217 => 184 | 225 => 240 | 224 => 241 | 267 => 242 | 266 => 236 | 314 => 265 | n => n, fun | 9 => 9 | 31 => 44 | 3 => 3 | 4 => 4 | 0 => 0 | 105 => 117 | 21 => 21 | 5 => 5 | 46 => 213 | 119 => 41 | 139 => 216 | 138 => 215 | 146 => 344 | 51 => 184 | n => n, fun | 1 => 2 | 3 => 0 | 4 => 1 | n => n⟩
theorem Tryz.lays146 : Go.Proofs.Lays.n146 Tryz.prog Tryz.lays146_ren := {
  mixed := by kernel_rfl
  f138 := Tryz.func137.trans (congrArg some (by kernel_rfl))
  f143 := Tryz.func139.trans (congrArg some (by kernel_rfl))
  f146 := Tryz.func146.trans (congrArg some (by kernel_rfl))
  f195 := Tryz.func188.trans (congrArg some (by kernel_rfl))
  f197 := Tryz.func33.trans (congrArg some (by kernel_rfl))
  f217 := Tryz.func184.trans (congrArg some (by kernel_rfl))
  f218 := Tryz.func189.trans (congrArg some (by kernel_rfl))
  f219 := Tryz.func192.trans (congrArg some (by kernel_rfl))
  f221 := Tryz.func202.trans (congrArg some (by kernel_rfl))
  f224 := Tryz.func241.trans (congrArg some (by kernel_rfl))
  f225 := Tryz.func240.trans (congrArg some (by kernel_rfl))
  f260 := Tryz.func70.trans (congrArg some (by kernel_rfl))
  f266 := Tryz.func236.trans (congrArg some (by kernel_rfl))
  f267 := Tryz.func242.trans (congrArg some (by kernel_rfl))
  f268 := Tryz.func247.trans (congrArg some (by kernel_rfl))
  f314 := Tryz.func265.trans (congrArg some (by kernel_rfl))
  t0 := Tryz.underlying0
  a0 := Tryz.isAgg0
  z0 := Tryz.sizeOf0
  v0 := Tryz.zeroValue0
  t3 := Tryz.underlying3
  a3 := Tryz.isAgg3
  z3 := Tryz.sizeOf3
  v3 := Tryz.zeroValue3
  t4 := Tryz.underlying4
  a4 := Tryz.isAgg4
  z4 := Tryz.sizeOf4
  v4 := Tryz.zeroValue4
  t5 := Tryz.underlying5
  a5 := Tryz.isAgg5
  z5 := Tryz.sizeOf5
  v5 := Tryz.zeroValue5
  t9 := Tryz.underlying9
  a9 := Tryz.isAgg9
  z9 := Tryz.sizeOf9
  v9 := Tryz.zeroValue9
  t21 := Tryz.underlying21
  a21 := Tryz.isAgg21
  z21 := Tryz.sizeOf21
  v21 := Tryz.zeroValue21
  t31 := Tryz.underlying44
  a31 := Tryz.isAgg44
  z31 := Tryz.sizeOf44
  v31 := Tryz.zeroValue44
  t46 := Tryz.underlying213
  a46 := Tryz.isAgg213
  z46 := Tryz.sizeOf213
  v46 := Tryz.zeroValue213
  t51 := Tryz.underlying184
  a51 := Tryz.isAgg184
  z51 := Tryz.sizeOf184
  v51 := Tryz.zeroValue184
  t105 := Tryz.underlying117
  a105 := Tryz.isAgg117
  z105 := Tryz.sizeOf117
  v105 := Tryz.zeroValue117
  t119 := Tryz.underlying41
  a119 := Tryz.isAgg41
  z119 := Tryz.sizeOf41
  t138 := Tryz.underlying215
  a138 := Tryz.isAgg215
  z138 := Tryz.sizeOf215
  v138 := Tryz.zeroValue215
  t139 := Tryz.underlying216
  a139 := Tryz.isAgg216
  z139 := Tryz.sizeOf216
  v139 := Tryz.zeroValue216
  t146 := Tryz.underlying344
  a146 := Tryz.isAgg344
  z146 := Tryz.sizeOf344
  v146 := Tryz.zeroValue344
  g1 := by kernel_rfl
  g3 := by kernel_rfl
  g4 := by kernel_rfl }
open Go.RowKit Go.Lib in
theorem Tryz.strings_Split (s sep : ByteArray) (m : Int) (w : World) (hs : s.size < 4294967281) (hm : w.cell? ⟨2, 0, none⟩ = some (.int .i64 m)) (h1 : 1 ≤ sep.size) :
    Calls Tryz.prog 146 #[.string s, .string sep] w fun e w' =>
      e = .returned (.slice (some ⟨w.heap.size, 0, none⟩) (Lib.countB s sep + 1) (Lib.countB s sep + 1)) ∧ w' = w.alloc (.cells ((Lib.splitB sep 0 (Lib.countB s sep) s).map Value.string).toArray 9) := Any.strings_Split Tryz.lays146 (by kernel_rfl) s sep m w hs hm h1
def Tryz.lays155_ren : Go.Shelf.Ren := ⟨fun | 155 => 44 | 154 => 83 | 138 => 137 | 165 => 138 | 143 => 139 | 166 => 140 | 197 => 33 | 169 => 141 | 195 => 188 | 218 => 189 | 240 => 190 | 241 => 191 | 219 => 192 | 260 => 70 | 276 => 238 | 277 => 239 | 217 => 184 | 225 => 240 | 224 => 241 | 267 => 242 | 266 => 236 | 314 => 265 | n => n, fun | 9 => 9 | 3 => 3 | 4 => 4 | 72 => 232 | 0 => 0 | 76 => 235 | 105 => 117 | 21 => 21 | 5 => 5 | 70 => 230 | 20 => 20 | 37 => 113 | 75 => 234 | 127 => 209 | 164 => 321 | 46 => 213 | 119 => 41 | 139 => 216 | 138 => 215 | 146 => 344 | 51 => 184 | 80 => 237 | n => n, fun | 1 => 2 | 3 => 0 | 4 => 1 | n => n⟩
theorem Tryz.lays155 : Go.Proofs.Lays.n155 Tryz.prog Tryz.lays155_ren := {
  mixed := by kernel_rfl
  f138 := Tryz.func137.trans (congrArg some (by kernel_rfl))
  f143 := Tryz.func139.trans (congrArg some (by kernel_rfl))
  f154 := Tryz.func83.trans (congrArg some (by kernel_rfl))
  f155 := Tryz.func44.trans (congrArg some (by kernel_rfl))
  f165 := Tryz.func138.trans (congrArg some (by kernel_rfl))
  f166 := Tryz.func140.trans (congrArg some (by kernel_rfl))
  f169 := Tryz.func141.trans (congrArg some (by kernel_rfl))
  f195 := Tryz.func188.trans (congrArg some (by kernel_rfl))
  f197 := Tryz.func33.trans (congrArg some (by kernel_rfl))
  f217 := Tryz.func184.trans (congrArg some (by kernel_rfl))
  f218 := Tryz.func189.trans (congrArg some (by kernel_rfl))
  f219 := Tryz.func192.trans (congrArg some (by kernel_rfl))
  f224 := Tryz.func241.trans (congrArg some (by kernel_rfl))
  f225 := Tryz.func240.trans (congrArg some (by kernel_rfl))
  f240 := Tryz.func190.trans (congrArg some (by kernel_rfl))
  f241 := Tryz.func191.trans (congrArg some (by kernel_rfl))
  f260 := Tryz.func70.trans (congrArg some (by kernel_rfl))
  f266 := Tryz.func236.trans (congrArg some (by kernel_rfl))
  f267 := Tryz.func242.trans (congrArg some (by kernel_rfl))
  f276 := Tryz.func238.trans (congrArg some (by kernel_rfl))
  f277 := Tryz.func239.trans (congrArg some (by kernel_rfl))
  f314 := Tryz.func265.trans (congrArg some (by kernel_rfl))
  t0 := Tryz.underlying0
  a0 := Tryz.isAgg0
  z0 := Tryz.sizeOf0
  v0 := Tryz.zeroValue0
  t3 := Tryz.underlying3
  a3 := Tryz.isAgg3
  z3 := Tryz.sizeOf3
  v3 := Tryz.zeroValue3
  t4 := Tryz.underlying4
  a4 := Tryz.isAgg4
  z4 := Tryz.sizeOf4
  v4 := Tryz.zeroValue4
  t5 := Tryz.underlying5
  a5 := Tryz.isAgg5
  z5 := Tryz.sizeOf5
  v5 := Tryz.zeroValue5
  t9 := Tryz.underlying9
  a9 := Tryz.isAgg9
  z9 := Tryz.sizeOf9
  v9 := Tryz.zeroValue9
  t20 := Tryz.underlying20
  a20 := Tryz.isAgg20
  z20 := Tryz.sizeOf20
  v20 := Tryz.zeroValue20
  t21 := Tryz.underlying21
  a21 := Tryz.isAgg21
  z21 := Tryz.sizeOf21
  v21 := Tryz.zeroValue21
  t37 := Tryz.underlying113
  a37 := Tryz.isAgg113
  z37 := Tryz.sizeOf113
  v37 := Tryz.zeroValue113
  t46 := Tryz.underlying213
  a46 := Tryz.isAgg213
  z46 := Tryz.sizeOf213
  v46 := Tryz.zeroValue213
  t51 := Tryz.underlying184
  a51 := Tryz.isAgg184
  z51 := Tryz.sizeOf184
  v51 := Tryz.zeroValue184
  t70 := Tryz.underlying230
  a70 := Tryz.isAgg230
  z70 := Tryz.sizeOf230
  v70 := Tryz.zeroValue230
  t72 := Tryz.underlying232
  a72 := Tryz.isAgg232
  z72 := Tryz.sizeOf232
  v72 := Tryz.zeroValue232
  t75 := Tryz.underlying234
  a75 := Tryz.isAgg234
  z75 := Tryz.sizeOf234
  v75 := Tryz.zeroValue234
  t76 := Tryz.underlying235
  a76 := Tryz.isAgg235
  z76 := Tryz.sizeOf235
  v76 := Tryz.zeroValue235
  t105 := Tryz.underlying117
  a105 := Tryz.isAgg117
  z105 := Tryz.sizeOf117
  v105 := Tryz.zeroValue117
  t119 := Tryz.underlying41
  a119 := Tryz.isAgg41
  z119 := Tryz.sizeOf41
  t127 := Tryz.underlying209
  a127 := Tryz.isAgg209
  z127 := Tryz.sizeOf209
  v127 := Tryz.zeroValue209
  t138 := Tryz.underlying215
  a138 := Tryz.isAgg215
  z138 := Tryz.sizeOf215
  v138 := Tryz.zeroValue215
  t139 := Tryz.underlying216
  a139 := Tryz.isAgg216
  z139 := Tryz.sizeOf216
  v139 := Tryz.zeroValue216
  t146 := Tryz.underlying344
  a146 := Tryz.isAgg344
  z146 := Tryz.sizeOf344
  v146 := Tryz.zeroValue344
  t164 := Tryz.underlying321
  a164 := Tryz.isAgg321
  z164 := Tryz.sizeOf321
  v164 := Tryz.zeroValue321
  g1 := by kernel_rfl
  g3 := by kernel_rfl
  g4 := by kernel_rfl }
theorem Tryz.Builder_Extra_155 : Builder.Extra Tryz.prog Tryz.lays155_ren := {
  sizeBuilder := by kernel_rfl
  liesBuilder := by kernel_rfl
  t5 := Tryz.underlying5
  a5 := Tryz.isAgg5
  z5 := Tryz.sizeOf5
  v5 := Tryz.zeroValue5
  infoByte := by kernel_rfl
  cellsByte := by kernel_rfl
  sizeByte := by kernel_rfl
  neB5 := by decide }
open Go.RowKit Go.Lib in
theorem Tryz.strings_ReplaceAll (s old new : ByteArray) (m : Int) (w : World) (hs : s.size < 4294967281) (hm : w.cell? ⟨2, 0, none⟩ = some (.int .i64 m)) (h1 : 1 ≤ old.size) (hlen : s.size + Lib.countB s old * new.size ≤ 140737488355328) :
    Calls Tryz.prog 44 #[.string s, .string old, .string new] w fun e w' =>
      e = .returned (.string ⟨(Lib.replaceAll s.data.toList old.data.toList new.data.toList).toArray⟩) ∧ Below w.heap.size w w' := Any.strings_ReplaceAll Tryz.lays155 Tryz.Builder_Extra_155 s old new m w hs hm h1 hlen
def Tryz.lays227_ren : Go.Shelf.Ren := ⟨fun | 227 => 197 | n => n, fun | 9 => 9 | 116 => 286 | 4 => 4 | 0 => 0 | 3 => 3 | 5 => 5 | n => n, fun | n => n⟩
theorem Tryz.lays227 : Go.Proofs.Lays.n227 Tryz.prog Tryz.lays227_ren := {
  mixed := by kernel_rfl
  f227 := Tryz.func197.trans (congrArg some (by kernel_rfl))
  t0 := Tryz.underlying0
  a0 := Tryz.isAgg0
  z0 := Tryz.sizeOf0
  v0 := Tryz.zeroValue0
  t3 := Tryz.underlying3
  a3 := Tryz.isAgg3
  z3 := Tryz.sizeOf3
  v3 := Tryz.zeroValue3
  t4 := Tryz.underlying4
  a4 := Tryz.isAgg4
  z4 := Tryz.sizeOf4
  v4 := Tryz.zeroValue4
  t5 := Tryz.underlying5
  a5 := Tryz.isAgg5
  z5 := Tryz.sizeOf5
  v5 := Tryz.zeroValue5
  t9 := Tryz.underlying9
  a9 := Tryz.isAgg9
  z9 := Tryz.sizeOf9
  v9 := Tryz.zeroValue9
  t116 := Tryz.underlying286
  a116 := Tryz.isAgg286
  z116 := Tryz.sizeOf286 }
open Go.RowKit Go.Lib in
theorem Tryz.strings_makeASCIISet (hv116 : ∀ w, (zeroValue 286).run Tryz.prog w = .ok (.agg (Array.replicate 256 (.bool false))) w) (chars : ByteArray) (w : World) (hs : chars.size < 4294967281) (hascii : ∀ (j : Nat) b, chars.data.toList[j]? = some b → b.toNat < 128) :
    Calls Tryz.prog 197 #[.string chars] w fun e w' => e = .returned (.tuple #[.agg (Lib.setCells chars.data.toList), .bool true]) ∧ w' = w.alloc (.cells (Lib.setCells chars.data.toList) 286) := Any.strings_makeASCIISet Tryz.lays227 hv116 (by kernel_rfl) chars w hs hascii
def Tryz.lays105_ren : Go.Shelf.Ren := ⟨fun | 105 => 252 | 212 => 243 | 99 => 123 | 165 => 138 | 166 => 140 | 170 => 271 | 169 => 141 | 263 => 266 | 264 => 267 | 206 => 175 | 240 => 190 | 241 => 191 | 276 => 238 | 277 => 239 | n => n, fun | 9 => 9 | 3 => 3 | 4 => 4 | 20 => 20 | 0 => 0 | 46 => 213 | 109 => 324 | 5 => 5 | 72 => 232 | 76 => 235 | 51 => 184 | 146 => 344 | 53 => 31 | 148 => 347 | 70 => 230 | 37 => 113 | 75 => 234 | 127 => 209 | 164 => 321 | 80 => 237 | n => n, fun | n => n⟩
theorem Tryz.lays105 : Go.Proofs.Lays.n105 Tryz.prog Tryz.lays105_ren := {
  mixed := by kernel_rfl
  f99 := Tryz.func123.trans (congrArg some (by kernel_rfl))
  f105 := Tryz.func252.trans (congrArg some (by kernel_rfl))
  f165 := Tryz.func138.trans (congrArg some (by kernel_rfl))
  f166 := Tryz.func140.trans (congrArg some (by kernel_rfl))
  f169 := Tryz.func141.trans (congrArg some (by kernel_rfl))
  f170 := Tryz.func271.trans (congrArg some (by kernel_rfl))
  f206 := Tryz.func175.trans (congrArg some (by kernel_rfl))
  f212 := Tryz.func243.trans (congrArg some (by kernel_rfl))
  f240 := Tryz.func190.trans (congrArg some (by kernel_rfl))
  f241 := Tryz.func191.trans (congrArg some (by kernel_rfl))
  f263 := Tryz.func266.trans (congrArg some (by kernel_rfl))
  f264 := Tryz.func267.trans (congrArg some (by kernel_rfl))
  f276 := Tryz.func238.trans (congrArg some (by kernel_rfl))
  f277 := Tryz.func239.trans (congrArg some (by kernel_rfl))
  t0 := Tryz.underlying0
  a0 := Tryz.isAgg0
  z0 := Tryz.sizeOf0
  v0 := Tryz.zeroValue0
  t3 := Tryz.underlying3
  a3 := Tryz.isAgg3
  z3 := Tryz.sizeOf3
  v3 := Tryz.zeroValue3
  t4 := Tryz.underlying4
  a4 := Tryz.isAgg4
  z4 := Tryz.sizeOf4
  v4 := Tryz.zeroValue4
  t5 := Tryz.underlying5
  a5 := Tryz.isAgg5
  z5 := Tryz.sizeOf5
  v5 := Tryz.zeroValue5
  t9 := Tryz.underlying9
  a9 := Tryz.isAgg9
  z9 := Tryz.sizeOf9
  v9 := Tryz.zeroValue9
  t20 := Tryz.underlying20
  a20 := Tryz.isAgg20
  z20 := Tryz.sizeOf20
  v20 := Tryz.zeroValue20
  t37 := Tryz.underlying113
  a37 := Tryz.isAgg113
  z37 := Tryz.sizeOf113
  v37 := Tryz.zeroValue113
  t46 := Tryz.underlying213
  a46 := Tryz.isAgg213
  z46 := Tryz.sizeOf213
  v46 := Tryz.zeroValue213
  t51 := Tryz.underlying184
  a51 := Tryz.isAgg184
  z51 := Tryz.sizeOf184
  v51 := Tryz.zeroValue184
  t53 := Tryz.underlying31
  a53 := Tryz.isAgg31
  z53 := Tryz.sizeOf31
  v53 := Tryz.zeroValue31
  t70 := Tryz.underlying230
  a70 := Tryz.isAgg230
  z70 := Tryz.sizeOf230
  v70 := Tryz.zeroValue230
  t72 := Tryz.underlying232
  a72 := Tryz.isAgg232
  z72 := Tryz.sizeOf232
  v72 := Tryz.zeroValue232
  t75 := Tryz.underlying234
  a75 := Tryz.isAgg234
  z75 := Tryz.sizeOf234
  v75 := Tryz.zeroValue234
  t76 := Tryz.underlying235
  a76 := Tryz.isAgg235
  z76 := Tryz.sizeOf235
  v76 := Tryz.zeroValue235
  t109 := Tryz.underlying324
  a109 := Tryz.isAgg324
  z109 := Tryz.sizeOf324
  v109 := Tryz.zeroValue324
  t127 := Tryz.underlying209
  a127 := Tryz.isAgg209
  z127 := Tryz.sizeOf209
  v127 := Tryz.zeroValue209
  t146 := Tryz.underlying344
  a146 := Tryz.isAgg344
  z146 := Tryz.sizeOf344
  v146 := Tryz.zeroValue344
  t148 := Tryz.underlying347
  a148 := Tryz.isAgg347
  z148 := Tryz.sizeOf347
  v148 := Tryz.zeroValue347
  t164 := Tryz.underlying321
  a164 := Tryz.isAgg321
  z164 := Tryz.sizeOf321
  v164 := Tryz.zeroValue321 }
theorem Tryz.Builder_Extra_105 : Builder.Extra Tryz.prog Tryz.lays105_ren := {
  sizeBuilder := by kernel_rfl
  liesBuilder := by kernel_rfl
  t5 := Tryz.underlying5
  a5 := Tryz.isAgg5
  z5 := Tryz.sizeOf5
  v5 := Tryz.zeroValue5
  infoByte := by kernel_rfl
  cellsByte := by kernel_rfl
  sizeByte := by kernel_rfl
  neB5 := by decide }
open Go.RowKit Go.Lib in
theorem Tryz.strings_Repeat (s : ByteArray) (c : Nat) (w : World) (hc : c ≤ 9223372036854775807) (hlen : s.size * c ≤ 140737488355328) :
    Calls Tryz.prog 252 #[.string s, .int .i64 c] w fun e w' => e = .returned (.string ⟨(Lib.repeatL s.data.toList c).toArray⟩) ∧ Below w.heap.size w w' := Any.strings_Repeat Tryz.lays105 Tryz.Builder_Extra_105 s c w hc hlen
def Tryz.lays197_ren : Go.Shelf.Ren := ⟨fun | 197 => 33 | 260 => 70 | n => n, fun | 9 => 9 | 21 => 21 | 3 => 3 | 4 => 4 | 5 => 5 | 105 => 117 | 119 => 41 | 0 => 0 | 46 => 213 | 139 => 216 | 138 => 215 | n => n, fun | 3 => 0 | 4 => 1 | n => n⟩
theorem Tryz.lays197 : Go.Proofs.Lays.n197 Tryz.prog Tryz.lays197_ren := {
  mixed := by kernel_rfl
  f197 := Tryz.func33.trans (congrArg some (by kernel_rfl))
  f260 := Tryz.func70.trans (congrArg some (by kernel_rfl))
  t0 := Tryz.underlying0
  a0 := Tryz.isAgg0
  z0 := Tryz.sizeOf0
  v0 := Tryz.zeroValue0
  t3 := Tryz.underlying3
  a3 := Tryz.isAgg3
  z3 := Tryz.sizeOf3
  v3 := Tryz.zeroValue3
  t4 := Tryz.underlying4
  a4 := Tryz.isAgg4
  z4 := Tryz.sizeOf4
  v4 := Tryz.zeroValue4
  t5 := Tryz.underlying5
  a5 := Tryz.isAgg5
  z5 := Tryz.sizeOf5
  v5 := Tryz.zeroValue5
  t9 := Tryz.underlying9
  a9 := Tryz.isAgg9
  z9 := Tryz.sizeOf9
  v9 := Tryz.zeroValue9
  t21 := Tryz.underlying21
  a21 := Tryz.isAgg21
  z21 := Tryz.sizeOf21
  v21 := Tryz.zeroValue21
  t46 := Tryz.underlying213
  a46 := Tryz.isAgg213
  z46 := Tryz.sizeOf213
  v46 := Tryz.zeroValue213
  t105 := Tryz.underlying117
  a105 := Tryz.isAgg117
  z105 := Tryz.sizeOf117
  v105 := Tryz.zeroValue117
  t119 := Tryz.underlying41
  a119 := Tryz.isAgg41
  z119 := Tryz.sizeOf41
  t138 := Tryz.underlying215
  a138 := Tryz.isAgg215
  z138 := Tryz.sizeOf215
  v138 := Tryz.zeroValue215
  t139 := Tryz.underlying216
  a139 := Tryz.isAgg216
  z139 := Tryz.sizeOf216
  v139 := Tryz.zeroValue216
  g3 := by kernel_rfl
  g4 := by kernel_rfl }
open Go.RowKit Go.Lib in
theorem Tryz.utf8_DecodeRuneInString (s : ByteArray) (w : World) (hT : Lib.Utf8Tabs 0 1 w) :
    Calls Tryz.prog 33 #[.string s] w fun e w' => e = .returned (.tuple #[.int .i32 (Lib.decodeGo s).1, .int .i64 (Lib.decodeGo s).2]) ∧ Below w.heap.size w w' := Any.utf8_DecodeRuneInString Tryz.lays197 s w hT
end Go.Proofs.YtmbfechiallppaaGreatDoor
end
section
namespace Go.Proofs.YtmbfechiallppaaGreatDoor
open Go Go.RowKit Go.Fw Go.Sx
set_option maxRecDepth 1000000
set_option maxHeartbeats 4000000
theorem u8_first : Rows.laid_unicode_utf8_first = Lib.firstData := by kernel_rfl
theorem u8_accept : (Rows.laid_unicode_utf8_acceptRanges : DataW Unit) = Lib.acceptData := by kernel_rfl
theorem u8Tabs {laid : List (String × DataW Unit)} {W : World} (hL : laidMet Tryz.prog laid W) (h1 : ("unicode/utf8.first", Rows.laid_unicode_utf8_first) ∈ laid) (h2 : ("unicode/utf8.acceptRanges", Rows.laid_unicode_utf8_acceptRanges) ∈ laid) : Lib.Utf8Tabs 0 1 W :=
  utf8Tabs_of_reads { Tryz.lays197 with } ⟨by kernel_rfl, by kernel_rfl, by kernel_rfl, by kernel_rfl, by kernel_rfl, by kernel_rfl, by kernel_rfl⟩ (u8_first ▸ Lib.laidMet.reads hL h1) (u8_accept ▸ Lib.laidMet.reads hL h2)
theorem u8_hold {W : World} (h : Lib.Utf8Tabs 0 1 W) : ∀ H w, Holds ⟨W.heap.size, W⟩ H w → Lib.Utf8Tabs 0 1 w := by
  intro H w hw
  have key : ∀ b c v, W.cell? ⟨b, c, none⟩ = some v → w.cell? ⟨b, c, none⟩ = some v := fun b c v hm => by
    have hlt : b < W.heap.size := by
      rcases Nat.lt_or_ge b W.heap.size with h | h
      · exact h
      · exfalso
        simp [World.cell?, Array.getElem?_eq_none h] at hm
    have e := hw.below.block b hlt
    rw [← hm]
    unfold World.cell?
    rw [e]
  exact ⟨fun c hc => key _ _ _ (h.1 c hc), fun i hi => ⟨key _ _ _ (h.2 i hi).1, key _ _ _ (h.2 i hi).2⟩⟩
end Go.Proofs.YtmbfechiallppaaGreatDoor
end
section
namespace Go.Proofs.YtmbfechiallppaaGreatDoor
open Go.RowKit Go.Fw
theorem u8i : (Tryz.prog.info? 5).map (fun i => (i.zero, i.size, i.bytes)) = some (some (.int .u8 0), 1, 1) := by kernel_rfl
end Go.Proofs.YtmbfechiallppaaGreatDoor
end
section
namespace Go.Sx
open Go Go.RowKit Go.Fw
theorem run_copy_rows {P : Program} (w : World) (dT sT ty elem : TypeId) (sz g o dLen dCap : Nat) (a : Addr) (sLen sCap : Nat) (cur : Array Value) (t : TypeId) (cs : List Value)
    (hu : P.underlying dT = some (.slice elem)) (hs : (P.info? elem).map (·.size) = some sz)
    (hg : w.heap[g]? = some (.cells cur t (0, 0))) (hn : cs.length = Nat.min sLen dLen * sz)
    (hsrc : ∀ j v, cs[j]? = some v → w.cell? (a.add j) = some v) (hfit : o + cs.length ≤ cur.size) (h1 : ∀ v ∈ cs, v.oneCell' = true) :
    (Builtin.copy_ #[dT, sT] ty #[.slice (some ⟨g, o, none⟩) dLen dCap, .slice (some a) sLen sCap]).run P w =
      .ok (goInt (Nat.min sLen dLen)) (w.setRow g (cur.toList.take o ++ cs ++ cur.toList.drop (o + cs.length)).toArray) := by
  have hl := run_loadCells_list (P := P) w a cs hsrc
  have hst := run_storeCells_at P g o t cs 0 cur w hg (by simpa using hfit) h1
  cases hq : P.info? elem with
  | none => simp [hq] at hs
  | some i =>
    have hi : i.size = sz := by simpa [hq] using hs
    simp [Builtin.copy_, run_underlying hu, Builtin.lenOf, Builtin.firstCells, sizeOf, typeInfo, hq, hi, ← hn, hl, hst]
theorem run_copy_none' {P : Program} (w : World) (dT sT ty elem : TypeId) (sz : Nat) (d a : Option Addr) (dLen dCap sLen sCap : Nat) (hu : P.underlying dT = some (.slice elem)) (hs : (P.info? elem).map (·.size) = some sz) (hn : Nat.min sLen dLen = 0) :
    (Builtin.copy_ #[dT, sT] ty #[.slice d dLen dCap, .slice a sLen sCap]).run P w = .ok (goInt 0) w := by
  cases hq : P.info? elem with
  | none => simp [hq] at hs
  | some i =>
    have hl : ∀ (x : Addr), (loadCells x 0).run P w = .ok #[] w := fun x => by simpa using run_loadCells_list (P := P) w x [] (by simp)
    cases d <;> cases a <;> simp [Builtin.copy_, run_underlying hu, Builtin.lenOf, Builtin.firstCells, sizeOf, typeInfo, hq, hn, storeCells, hl]
section
variable {P : Program} {G : Ctx} {n : Sz} {ops : Array Oper} {Q : Post} {s : Fm} {H : List Ent} {o : Oper} {rest : List Oper}
/-- copy of elements of several cells, into a row that is held. -/
theorem c_copyA {x y : Operand} {dT sT e sz bytes dl dc sl sc len c b off m d : Nat} {a2 : Option Addr} {xs ys : List Value} {H' : List Ent} (hg : o.guard = none) (ho : o.op = .call { callee := .builtin .copy, args := #[x, y], argTypes := #[dT, sT] }) [hT : SliceT P dT e sz bytes] (hx : ev s x = some (.slice (some ⟨b, off, none⟩) dl dc)) (hy : ev s y = some (.slice a2 sl sc)) [hp : PickOwn H (some ⟨b, 0, none⟩) e sz len c xs H'] [hr : RdC G H a2 ys]
    (hm : m = min sl dl) (hys : m * sz ≤ ys.length) (hfit : off + m * sz ≤ len * sz) (h1 : (ys.take (m * sz)).all (·.oneCell') = true) (h1d : o.dst = some d) (h2d : Nat.blt d n.n = true)
    (hk : SL P G n ops Q rest ((d, .int .i64 m) :: s) (.own e sz (some ⟨b, 0, none⟩) len c (over xs off (ys.take (m * sz))) :: H')) : SL P G n ops Q (o :: rest) s H := by
  have hd := okd (n := n) h1d h2d
  simp only [← updd h1d] at hk
  refine sl_op (.inl hg) fun act w ha hw K hK => ?_
  have hr' := hr.here w hw
  have hw := hw.pick hp.here
  have hown : w.ownsRow G.B e sz (.slice (some ⟨b, 0, none⟩) len c) len xs := hw.ok _ List.mem_cons_self
  have hsz := hT.size
  have hu := hT.here.1
  have hsz0 := hT.here.2.1
  unfold Oper.wp execOp
  simp only [ho, resolve, invoke, builtin, Sem.run_bind, Sem.run_pure, Result.andThen_ok, List.map_toArray, List.map_cons, List.map_nil, ha.ev hx, ha.ev hy]
  rcases Nat.eq_zero_or_pos m with h0 | h0
  · have hrun := run_copy_none' (P := P) w dT sT o.type e sz (some ⟨b, off, none⟩) a2 dl dc sl sc hu hsz (by rw [← h0]; exact hm.symm)
    simp only [hrun, Result.andThen_ok]
    subst h0
    have e1 : over xs off (ys.take (0 * sz)) = xs := by simp [over]
    rw [e1] at hk
    exact hK _ _ (hk _ _ (ha.put _ _ hd) hw)
  · have hpos : 0 < m * sz := Nat.mul_pos h0 hsz0
    obtain ⟨hlen, ⟨hv, hz⟩ | ⟨g, cap, cur, hv, hB, hh, hn, hmx, hs, ht⟩⟩ := hown
    · subst hz
      rw [Nat.zero_mul] at hfit
      omega
    · obtain ⟨rfl, rfl⟩ : b = g ∧ c = cap := by
        simp only [Value.slice.injEq, Option.some.injEq, Addr.mk.injEq, and_true, true_and] at hv
        exact hv
      obtain ⟨b2, off2, rfl, hc2⟩ := At.someAt hr' (by omega)
      have hcl : (ys.take (m * sz)).length = m * sz := by rw [List.length_take]; omega
      have hcur2 : xs.length ≤ cur.toList.length := by rw [← ht, List.length_take]; exact Nat.min_le_right _ _
      have hmm : Nat.min sl dl = m := hm.symm
      have hrun := run_copy_rows (P := P) w dT sT o.type e sz b off dl dc ⟨b2, off2, none⟩ sl sc cur e (ys.take (m * sz)) hu hsz hh (by rw [hcl, hmm]) (fun j v hj => by
        have hj' : j < m * sz := by
          have := (List.getElem?_eq_some_iff.1 hj).1
          rw [hcl] at this
          exact this
        rw [Addr.add_mid, hc2 j (by omega)]
        rw [List.getElem?_take_of_lt hj'] at hj
        exact hj) (by rw [hcl, ← Array.length_toList]; omega) (fun v hv => List.all_eq_true.1 h1 v hv)
      rw [hmm] at hrun
      simp only [hrun, Result.andThen_ok]
      have hov : (cur.toList.take off ++ ys.take (m * sz) ++ cur.toList.drop (off + (ys.take (m * sz)).length)) = over cur.toList off (ys.take (m * sz)) := rfl
      rw [hov]
      have hl : off + (ys.take (m * sz)).length ≤ xs.length := by rw [hcl, hlen]; exact hfit
      have hcl2 : off + (ys.take (m * sz)).length ≤ cur.toList.length := by omega
      have e2 : (over cur.toList off (ys.take (m * sz))).take (len * sz) = over xs off (ys.take (m * sz)) := by
        have h4 : off + (ys.take (m * sz)).length ≤ len * sz := by rw [← hlen]; exact hl
        unfold over
        rw [← ht, List.take_take, Nat.min_eq_left (by omega), List.drop_take]
        have h3 : (cur.toList.take off).length = off := by rw [List.length_take]; omega
        rw [List.take_append, List.take_of_length_le (by rw [List.length_append, h3]; omega)]
        congr 2
        rw [List.length_append, h3]
      have hw' : Holds G (.own e sz (some ⟨b, 0, none⟩) len c (over xs off (ys.take (m * sz))) :: H') (w.setRow b (over cur.toList off (ys.take (m * sz))).toArray) := by
        obtain ⟨hap, hapH⟩ := List.pairwise_cons.1 hw.apart
        refine ⟨below_setRow hw.below hB _, by simpa using hw.base, fun z hz => ?_, List.pairwise_cons.2 ⟨fun y hy k hk => hap y hy k hk, hapH⟩⟩
        rcases List.mem_cons.1 hz with rfl | hz
        · refine ⟨?_, .inr ⟨b, c, (over cur.toList off (ys.take (m * sz))).toArray, rfl, hB, setRow_heap w b _ _ e (0, 0) hh, hn, hmx, ?_, by rw [List.toList_toArray]; exact e2⟩⟩
          · rw [over_len hl]; exact hlen
          · rw [List.size_toArray, over_len hcl2, Array.length_toList]; exact hs
        · exact Ent.ok_of (hw.ok z (List.mem_cons_of_mem _ hz)) fun j hj => setRow_other w b j _ (fun e => hap z hz b rfl (e ▸ hj))
      exact hK _ _ (hk _ _ (ha.put _ _ hd) hw')
end
end Go.Sx
namespace Go.Sx
open Go Go.RowKit Go.Fw
section
variable {P : Program} {G : Ctx} {n : Sz} {ops : Array Oper} {Q : Post} {s : Fm} {H : List Ent} {o : Oper} {rest : List Oper}
end
/-- What is made has a place, if it is not empty. -/
theorem sc_some {P : Program} {G : Ctx} {f : FuncId} {args : List Value} {H : List Ent} {e sz n : Nat} {xs : List Value} {F : Option Addr → Nat → Value} (h : SC P G f args H fun v H' => ∃ a' c', v = F a' c' ∧ H' = .own e sz a' n c' xs :: H) (hn : 0 < n) : SC P G f args H fun v H' => ∃ b c', n ≤ c' ∧ v = F (some ⟨b, 0, none⟩) c' ∧ H' = .own e sz (some ⟨b, 0, none⟩) n c' xs :: H := ⟨h.1, fun w hw => (h.2 w hw).mono fun r w' ⟨v, H', h1, h2, a', c', h3, h4⟩ => by
  subst h4
  obtain ⟨b, rfl, hc⟩ := own_some h2 List.mem_cons_self hn
  exact ⟨v, _, h1, h2, b, c', hc, h3, rfl⟩⟩
end Go.Sx
namespace Go.Sx
open Go Go.RowKit Go.Fw
class PickObj (H : List Ent) (g : Nat) (o : outParam Obj) (H' : outParam (List Ent)) : Prop where
  here : Pick (.obj g o) H H'
instance (priority := low) pickObjTail {H H' : List Ent} {g : Nat} {o : Obj} {x : Ent} [h : PickObj H g o H'] : PickObj (x :: H) g o (x :: H') := ⟨.there h.here⟩
instance pickObjHead {H : List Ent} {g : Nat} {o : Obj} : PickObj (.obj g o :: H) g o H := ⟨.here _⟩
section
variable {P : Program} {G : Ctx} {n : Sz} {ops : Array Oper} {Q : Post} {s : Fm} {H : List Ent} {o : Oper} {rest : List Oper}
theorem c_minB {x y : Operand} {ats : Array TypeId} {k k' : IntKind} {p q : Int} (ho : o.op = .call { callee := .builtin .min, args := #[x, y], argTypes := ats }) (hx : ev s x = some (.int k p)) (hy : ev s y = some (.int k' q)) : Yields P G n s H o (.int k (min p q)) := fun a w ha _ => by
  have e : min p q = if q < p then q else p := by split <;> omega
  unfold execOp; rw [ho, e]
  simp only [resolve, invoke, Sem.run_bind, Sem.run_pure, Result.andThen_ok, builtin, List.map_toArray, List.map_cons, List.map_nil, ha.ev hx, ha.ev hy, run_min_int2]
/-- A byte of a text, by its value. -/
theorem c_indexNumV {t : Nat} {x y : Operand} {k : IntKind} {i v : Int} {b : ByteArray} (hv : (nums b).getD i.toNat 0 = v) (ho : o.op = .index t x y) [h : StrT P t] (hx : ev s x = some (.string b)) (hy : ev s y = some (.int k i)) (h0 : 0 ≤ i) (hi : i < b.size) : Yields P G n s H o (.int .u8 v) := hv ▸ c_indexNum ho hx hy h0 hi
/-- A number below 128 as a text. -/
theorem c_convIs {src dst : TypeId} {k : IntKind} {x : Operand} {m : Int} (ho : o.op = .convert src dst x) [h1 : IntT P src k] [h2 : StrT P dst] (hx : ev s x = some (.int k m)) (h0 : 0 ≤ m) (hm : m < 128) : Yields P G n s H o (.string (strOfNums [m])) := fun a w ha _ => by
  have e : Utf8.encode m = strOfNums [m] := by
    have hv : Utf8.valid m = true := by simp [Utf8.valid]; omega
    have h3 : m.toNat < 128 := by omega
    unfold Utf8.encode
    rw [hv]
    simp only [if_true]
    rw [if_pos h3]
    rfl
  unfold execOp; rw [ho]; simp only [ha.ev hx]
  refine run_value ?_
  simp only [convert, Sem.run_bind, run_underlying h1.here, run_underlying h2.here, Result.andThen_ok, Conv.intToString, Sem.run_pure, e]
/-- A piece of a text, by its value. -/
theorem c_sliceStrV {t : TypeId} {x : Operand} {lo hi : Option Operand} {b v : ByteArray} {l h : Int} (hv : b.extract l.toNat h.toNat = v) (ho : o.op = .slice t x lo hi none) [ht : StrT P t] (hx : ev s x = some (.string b)) (hl : bnd s 0 lo = some l) (hh : bnd s b.size hi = some h) (h0 : 0 ≤ l) (h1 : l ≤ h) (h2 : h ≤ b.size) : Yields P G n s H o (.string v) := hv ▸ c_sliceStr ho hx hl hh h0 h1 h2
end
end Go.Sx
namespace Go.Sx
open Go Go.RowKit Go.Fw
theorem sc_mk {P : Program} {G : Ctx} {f : FuncId} {args : List Value} {H : List Ent} {R : Value → List Ent → Prop} (hc : Sx.Callee P f) (h : ∀ w, Holds G H w → Calls P f args.toArray w fun e w' => ∃ v H', e = .returned v ∧ Holds G H' w' ∧ R v H') : SC P G f args H R := ⟨hc, h⟩
section
variable {P : Program} {G : Ctx} {n : Sz} {ops : Array Oper} {Q : Post} {s : Fm} {H : List Ent} {o : Oper} {rest : List Oper}
end
theorem bb_shl1V {P : Program} {K : Value → Prop} {x y : Operand} {t : TypeId} {k' : IntKind} {q D : Int} (hD : pw q.toNat = D) (h0 : 0 ≤ q) (h1 : q ≤ 63) (hk : K (.int .u64 D)) : BB P .shl t x y (.int .u64 1) (.int k' q) K := bb_shl1 h0 h1 (hD ▸ hk)
theorem bb_bitsV {P : Program} {K : Value → Prop} {x y : Operand} {t : TypeId} {op : BinOp} {k : IntKind} {p q D : Int} (hop : (match op with | .and | .or | .xor | .andNot => true | _ => false) = true) (hD : ibits op k p q = D) (hk : K (.int k D)) : BB P op t x y (.int k p) (.int k q) K := bb_bits hop (hD ▸ hk)
theorem c_storekV {P : Program} {G : Ctx} {n : Sz} {ops : Array Oper} {Q : Post} {s : Fm} {H : List Ent} {o : Oper} {rest : List Oper} {t t' : TypeId} {x y : Operand} {b off : Nat} {cs cs' : List Value} {v : Value} {H' : List Ent} (hg : o.guard = none) (ho : o.op = .store t x y) [h : Sc P t] (hx : ev s x = some (.pointer (some ⟨b, off, none⟩))) (hy : ev s y = some v) [hp : PickBlk H b t' cs H'] (h1 : v.oneCell' = true) (hs : cs.set off v = cs')
    (hl : off < cs.length) (hd : o.dst = none) (hk : SL P G n ops Q rest s (.blk b t' cs' :: H')) : SL P G n ops Q (o :: rest) s H := c_storek hg ho hx hy h1 hl hd (hs ▸ hk)
theorem bb_catV {P : Program} {K : Value → Prop} {x y : Operand} {t : TypeId} {a b r : ByteArray} (hr : a ++ b = r) (h : a.size + b.size ≤ 9223372036854775807) (hk : K (.string r)) : BB P .add t x y (.string a) (.string b) K := bb_cat h (hr ▸ hk)
/-- The beginning of a row that is held. -/
theorem Holds.shrink {G : Ctx} {H : List Ent} {e sz n c m b : Nat} {xs : List Value} {w : World} (h : Holds G (.own e sz (some ⟨b, 0, none⟩) n c xs :: H) w) (hm : m ≤ n) : Holds G (.own e sz (some ⟨b, 0, none⟩) m c (xs.take (m * sz)) :: H) w := by
  have hms : m * sz ≤ n * sz := Nat.mul_le_mul_right sz hm
  obtain ⟨hap, hapH⟩ := List.pairwise_cons.1 h.apart
  refine ⟨h.below, h.base, fun x hx => ?_, List.pairwise_cons.2 ⟨fun y hy k hk => hap y hy k hk, hapH⟩⟩
  rcases List.mem_cons.1 hx with rfl | hx
  · obtain ⟨hl, hv⟩ : w.ownsRow G.B e sz (.slice (some ⟨b, 0, none⟩) n c) n xs := h.ok _ List.mem_cons_self
    rcases hv with ⟨hv, -⟩ | ⟨g, cap, cur, hv, hB, hh, hn, hmx, hs, ht⟩
    · cases hv
    · obtain ⟨rfl, rfl⟩ : b = g ∧ c = cap := by simpa [Value.slice.injEq] using hv
      refine ⟨by rw [List.length_take, hl, Nat.min_eq_left hms], .inr ⟨b, c, cur, rfl, hB, hh, by omega, hmx, hs, ?_⟩⟩
      rw [← ht, List.take_take, Nat.min_eq_left hms]
  · exact h.ok x (List.mem_cons_of_mem _ hx)
end Go.Sx
namespace Go.Sx
open Go Go.RowKit Go.Fw
theorem strCells_octs (s : ByteArray) : Lib.strCells s = octs (nums s) := by
  unfold Lib.strCells octs nums
  rw [List.map_map]; rfl
theorem run_append_anyS {P : Program} {w : World} {B : Nat} {t u ty e : TypeId} {i : TypeInfo} {len c : Nat} {a : Option Addr} {xs : List Value} (ht : P.underlying t = some (.slice e)) (hu : P.underlying u = some .string) (hi : P.info? e = some i) (hz : i.zero = some (.int .u8 0)) (hsize : i.size = 1) (hby : i.bytes = 1)
    (hown : w.ownsRow B e 1 (.slice a len c) len xs) (s : ByteArray) (hb : len + s.size ≤ 140737488355328) (hbase : B ≤ w.heap.size) :
    ∃ a' c' w', (Builtin.append_ #[t, u] ty #[.slice a len c, .string s]).run P w = .ok (.slice a' (len + s.size) c') w' ∧ w'.ownsRow B e 1 (.slice a' (len + s.size) c') (len + s.size) (xs ++ Lib.strCells s) ∧ w.grownBy w' (Value.slice a len c).ownBlock ∧
      (∀ k, (Value.slice a' (len + s.size) c').ownBlock = some k → some k = (Value.slice a len c).ownBlock ∨ w.heap.size ≤ k) := by
  have h63 : len + s.size ≤ maxLen := by unfold maxLen; omega
  obtain ⟨v', w', hr, ho, hg, hn⟩ := Lib.run_append_own_string (P := P) w B t u ty e i ht hu hi hz hsize hby (.slice a len c) len xs hown s h63 hb hbase
  rcases hown.2 with ⟨hv, h0⟩ | ⟨g, cap, cur, hv, hbg, hcells, hnc, hcm, hcs, htake⟩
  · subst h0
    obtain ⟨rfl, rfl⟩ : a = none ∧ c = 0 := by simpa [Value.slice.injEq] using hv
    by_cases hm : s.size = 0
    · have hv' := hn.2 ⟨rfl, hm⟩
      subst hv'
      refine ⟨none, 0, w', by rw [hr, hm], ?_, hg, fun k hk => by simp [Value.ownBlock] at hk⟩
      rw [hm] at ho ⊢
      exact ho
    · have hr2 := run_append_nil_string (P := P) w t u ty e i (.int .u8 0) ht hu hi hz s (by omega) (by omega) (by rw [hby]; omega)
      rw [hr2] at hr
      injection hr with e1 e2
      rw [← e1] at ho
      rw [Nat.zero_add] at ho ⊢
      exact ⟨_, _, w', by rw [hr2, e2], ho, hg, fun k hk => .inr (by simp only [Value.ownBlock, Option.some.injEq] at hk; omega)⟩
  · obtain ⟨rfl, rfl⟩ : a = some ⟨g, 0, none⟩ ∧ c = cap := by simpa [Value.slice.injEq] using hv
    have hxl : xs.length = len := by simpa using hown.1
    by_cases hroom : len + s.size ≤ c
    · have hr2 := Lib.run_append_room_string (P := P) w t u ty e i ht hu hi hsize g len c cur hcells s hroom (by rw [hcs, Nat.mul_one]; exact hroom)
      rw [hr2] at hr
      injection hr with e1 e2
      rw [← e1] at ho
      exact ⟨_, _, w', by rw [hr2, e2], ho, hg, fun k hk => .inl hk.symm⟩
    · have hr2 := Lib.run_append_grow_string (P := P) w t u ty e i (.int .u8 0) ht hu hi hz ⟨g, 0, none⟩ len c xs (by rw [hsize]; simpa using hxl) (hown.cells (g := g) rfl) s (by omega) (by omega) (by rw [hby]; exact growslice_fits (by omega) (by omega))
      rw [hr2] at hr
      injection hr with e1 e2
      rw [← e1] at ho
      exact ⟨_, _, w', by rw [hr2, e2], ho, hg, fun k hk => .inr (by simp only [Value.ownBlock, Option.some.injEq] at hk; omega)⟩
theorem sl_appendS {P : Program} {G : Ctx} {n : Sz} {ops : Array Oper} {Q : Post} {s : Fm} {H : List Ent} {o : Oper} {rest : List Oper} {x y : Operand} {t u e : TypeId} {a : Option Addr} {len c d : Nat} {xs : List Value} {b : ByteArray} {H' : List Ent} (hg : o.guard = none) (ho : o.op = .call { callee := .builtin .append, args := #[x, y], argTypes := #[t, u] })
    (hx : ev s x = some (.slice a len c)) (hp : Pick (.own e 1 a len c xs) H H') (hy : ev s y = some (.string b)) (ht : P.underlying t = some (.slice e)) (hu : P.underlying u = some .string) (hi : (P.info? e).map (fun i => (i.zero, i.size, i.bytes)) = some (some (.int .u8 0), 1, 1))
    (hb : len + b.size ≤ 140737488355328) (h1d : o.dst = some d) (h2d : Nat.blt d n.n = true)
    (h : ∀ a' c', SL P G n ops Q rest ((d, .slice a' (len + b.size) c') :: s) (.own e 1 a' (len + b.size) c' (xs ++ octs (nums b)) :: H')) : SL P G n ops Q (o :: rest) s H := fun act w ha hw => by
  have hd := okd (n := n) h1d h2d
  simp only [← updd h1d] at h
  replace hg : Want ops o s := .inl hg
  have hwp := hw.pick hp
  have hown : w.ownsRow G.B e 1 (.slice a len c) len xs := hwp.ok _ List.mem_cons_self
  obtain ⟨i0, hi0, hz0, hz1, hz2⟩ := info_parts hi
  have fin : ∀ a' c' w', w'.ownsRow G.B e 1 (.slice a' (len + b.size) c') (len + b.size) (xs ++ octs (nums b)) → w.grownBy w' (Value.slice a len c).ownBlock → (∀ k, (Value.slice a' (len + b.size) c').ownBlock = some k → some k = (Value.slice a len c).ownBlock ∨ w.heap.size ≤ k) → wpList P ops (lift G n Q) rest (act.put o.dst (.slice a' (len + b.size) c')) w' := by
    intro a' c' w' ho' hgr hk
    have hw' : Holds G H' w' := hwp.drop.stepped _ hgr (fun k hk => (World.ownsRow.lt hown k hk).1) (fun x hx k hk e => (List.pairwise_cons.1 hwp.apart).1 x hx k e hk)
    refine h a' c' _ _ (ha.put _ _ hd) ⟨hw'.below, hw'.base, fun x hx => ?_, List.pairwise_cons.2 ⟨fun y hy k hky => ?_, hw'.apart⟩⟩
    · rcases List.mem_cons.1 hx with rfl | hx
      · exact ho'
      · exact hw'.ok x hx
    · intro hyk
      rcases hk k hky with e1 | e1
      · exact (List.pairwise_cons.1 hwp.apart).1 y hy k e1.symm hyk
      · have := (Ent.ok_lt (hwp.ok y (List.mem_cons_of_mem _ hy)) hyk).2
        omega
  refine wpList_step fun K hK => ?_
  rw [if_pos (hg.wanted ha)]
  unfold Oper.wp execOp
  simp only [ho, resolve, invoke, builtin, Sem.run_bind, Sem.run_pure, Result.andThen_ok, List.map_toArray, List.map_cons, List.map_nil, ha.ev hx, ha.ev hy]
  obtain ⟨a', c', w', hrun, h2, h3, h4⟩ := run_append_anyS (ty := o.type) ht hu hi0 hz0 hz1 hz2 hown b hb hwp.base
  simp only [hrun, Result.andThen_ok]
  rw [strCells_octs] at h2
  exact hK _ _ (fin a' c' w' h2 h3 h4)
theorem c_appendS {P : Program} {G : Ctx} {n : Sz} {ops : Array Oper} {Q : Post} {s : Fm} {H : List Ent} {o : Oper} {rest : List Oper} {x y : Operand} {t u e : TypeId} {a : Option Addr} {len c d : Nat} {xs : List Value} {b : ByteArray} {H' : List Ent} (hg : o.guard = none) (ho : o.op = .call { callee := .builtin .append, args := #[x, y], argTypes := #[t, u] })
    [hT : SliceT P t e 1 1] [hu : StrT P u] (hi : (P.info? e).map (fun i => (i.zero, i.size, i.bytes)) = some (some (.int .u8 0), 1, 1)) (hx : ev s x = some (.slice a len c)) [hp : PickOwn H a e 1 len c xs H'] (hy : ev s y = some (.string b)) (hb : len + b.size ≤ 140737488355328) (h1d : o.dst = some d) (h2d : Nat.blt d n.n = true)
    (h : ∀ a' c', SL P G n ops Q rest ((d, .slice a' (len + b.size) c') :: s) (.own e 1 a' (len + b.size) c' (xs ++ octs (nums b)) :: H')) : SL P G n ops Q (o :: rest) s H :=
  sl_appendS hg ho hx hp.here hy hT.here.1 hu.here hi hb h1d h2d h
end Go.Sx
namespace Go.Sx
open Go Go.RowKit Go.Fw
theorem c_sliceTake {P : Program} {G : Ctx} {n : Sz} {s : Fm} {H : List Ent} {o : Oper} {t e sz bytes : Nat} {x : Operand} {hi : Option Operand} {a : Option Addr} {len c : Nat} {h : Int} {xs : List Value} {H' : List Ent} (ho : o.op = .slice t x none hi none) [hT : SliceT P t e sz bytes] [hp : PickOwn H a e sz len c xs H'] (hx : ev s x = some (.slice a len c)) (hh : bnd s len hi = some h) (h1 : 0 ≤ h) (h2 : h ≤ len) : Yields P G n s H o (.slice a h.toNat c) := fun act w ha hw => by
  have hown : w.ownsRow G.B e sz (.slice a len c) len xs := (hw.pick hp.here).ok _ List.mem_cons_self
  rcases hown.2 with ⟨hv, h0⟩ | ⟨g, cap, cur, hv, hbg, hcells, hnc, hcm, hcs, htake⟩
  · subst h0
    obtain ⟨rfl, rfl⟩ : a = none ∧ c = 0 := by simpa [Value.slice.injEq] using hv
    obtain rfl : h = 0 := by omega
    obtain ⟨hu, hsz, -, -⟩ := hT.here
    have hS := hT.size
    unfold execOp; rw [ho]; simp only [ha.ev hx]
    refine run_value ?_
    have hb := run_bounds (P := P) (isSl := true) (w := w) (cap := 0) (lo := none) ha rfl hh (by omega : (0 : Int) ≤ ((0 : Nat) : Int)) (by omega) (by omega)
    cases hq : P.info? e with
    | none => simp [hq] at hS
    | some inf =>
      have hs : inf.size = sz := by simpa [hq] using hS
      have hz : (sizeOf e).run P w = .ok sz w := by simp [sizeOf, typeInfo, program, Sem.run, hq, hs]
      simp only [Option.map_none] at hb
      simp only [Instr.sliceAt, Sem.run_bind, run_underlying hu, Result.andThen_ok, Instr.slice, Option.map_none]
      simp [hb, hz, Sem.run]
  · obtain ⟨rfl, rfl⟩ : a = some ⟨g, 0, none⟩ ∧ c = cap := by simpa [Value.slice.injEq] using hv
    exact y_slice0 ho hx hh h1 (by omega) act w ha hw
theorem Holds.shrinkA {G : Ctx} {H : List Ent} {e sz n c m : Nat} {a : Option Addr} {xs : List Value} {w : World} (h : Holds G (.own e sz a n c xs :: H) w) (hm : m ≤ n) : Holds G (.own e sz a m c (xs.take (m * sz)) :: H) w := by
  have hown : w.ownsRow G.B e sz (.slice a n c) n xs := h.ok _ List.mem_cons_self
  rcases hown.2 with ⟨hv, h0⟩ | ⟨g, cap, cur, hv, -⟩
  · subst h0
    obtain rfl : m = 0 := by omega
    have hx : xs = [] := List.eq_nil_of_length_eq_zero (by simpa using hown.1)
    subst hx
    simpa using h
  · obtain ⟨rfl, rfl⟩ : a = some ⟨g, 0, none⟩ ∧ c = cap := by simpa [Value.slice.injEq] using hv
    exact h.shrink hm
end Go.Sx
namespace Go.Sx
open Go Go.RowKit Go.Fw
section
variable {P : Program} {ops : Array Oper} {Q : Exit → Act → World → Prop} {md : Region.Mode}
/-- Whatever comes up next, and S holds of what is listed and of the world behind it. -/
def runs (P : Program) (md : Region.Mode) (ops : Array Oper) (Q : Exit → Act → World → Prop) (S : Array Bool → World → Prop) (m : Nat) : Array Bool → Act → World → Prop :=
  m.rec (fun l a w => Region.ready md ops l = [] ∧ Q .normal a w)
    fun _ go l a w => (Region.ready md ops l = [] → Q .normal a w) ∧ ∀ i ∈ Region.ready md ops l, wpOp P ops Q i (fun a' w' => S (l.setIfInBounds i true) w' ∧ go (l.setIfInBounds i true) a' w') a w
variable {S : Array Bool → World → Prop}
theorem runs_any : ∀ (m : Nat) (l : Array Bool) (a : Act) (w : World), runs P md ops Q S m l a w → wpAny P md ops Q m l a w
  | 0, _, _, _, h => h
  | m + 1, _, _, _, h => ⟨h.1, fun i hi => wpOp_mono (fun a' w' h' => runs_any m _ a' w' h'.2) (h.2 i hi)⟩
theorem runs_mk {m : Nat} {l : Array Bool} {a : Act} {w : World} (h0 : Region.ready md ops l ≠ []) (h : ∀ i ∈ Region.ready md ops l, wpOp P ops Q i (fun a' w' => S (l.setIfInBounds i true) w' ∧ runs P md ops Q S m (l.setIfInBounds i true) a' w') a w) : runs P md ops Q S (m + 1) l a w := ⟨fun e => absurd e h0, h⟩
theorem runs_first {i : Nat} {oi : Oper} {v : Value} {T : World → Prop} {Inv : Array Bool → Prop} (hi : ops[i]? = some oi) (hsel : ∀ (j : Nat) (o : Oper) cs b, ops[j]? = some o → o.op ≠ .select cs b)
    (hQ : ∀ c a w, Q (.panic c) (a.put oi.dst v) w → Q (.panic c) a w) (hInv : ∀ l j, Inv l → i ∈ Region.ready md ops l → j ∈ Region.ready md ops l → j ≠ i → Inv (l.setIfInBounds j true))
    (hT : ∀ l w, Inv l → S l w → T w) (hS : ∀ l w, S (l.setIfInBounds i true) w ↔ S l w) :
    ∀ (m : Nat) (l : Array Bool) (a : Act) (w : World),
      (∀ j oj, ops[j]? = some oj → j ≠ i → l.getD j true = false → (∀ e ∈ oj.after, Region.binds md e = true → e.on ≠ i) → oi.apart ops oj = true) →
      i ∈ Region.ready md ops l → Inv l → YieldsIf P ops T oi v a → S l w →
      runs P md ops Q S m (l.setIfInBounds i true) (a.put oi.dst v) w → runs P md ops Q S (m + 1) l a w := by
  intro m
  induction m with
  | zero =>
    intro l a w _ hr hI hy hs H
    refine ⟨fun h => (by rw [h] at hr; cases hr), fun j hj => ?_⟩
    by_cases hji : j = i
    · subst hji; exact hy.wpOp hi (hT _ _ hI hs) ⟨(hS _ _).2 hs, H⟩
    · have := ready_mono hj hji
      rw [H.1] at this
      cases this
  | succ m ih =>
    intro l a w hfree hr hI hy hs H
    refine ⟨fun h => (by rw [h] at hr; cases hr), fun j hj => ?_⟩
    by_cases hji : j = i
    · subst hji; exact hy.wpOp hi (hT _ _ hI hs) ⟨(hS _ _).2 hs, H⟩
    have h1 := H.2 j (ready_mono hj hji)
    obtain ⟨hun, oj, hoj, hall⟩ := mem_ready.1 hj
    have hnot : ∀ e ∈ oj.after, Region.binds md e = true → e.on ≠ i := fun e he hb heq => by
      have h1 := hall e he hb
      have h0 := (mem_ready.1 hr).1
      rw [heq] at h1
      rcases Nat.lt_or_ge i l.size with h' | h'
      · simp [h'] at h0 h1; rw [h0] at h1; cases h1
      · simp [Array.getElem?_eq_none h'] at h1
    have h2 := wpOp_putIf hoj (hfree j oj hoj hji hun hnot) (fun cs b => hsel i oi cs b hi) (fun cs b => hsel j oj cs b hoj) hQ hy h1
    refine wpOp_mono (fun a' w' h3 => ?_) h2
    obtain ⟨h4, h5, h6⟩ := h3
    rw [Array.setIfInBounds_comm _ _ (Ne.symm hji)] at h5 h6
    have h5' := (hS _ _).1 h5
    refine ⟨h5', ih (l.setIfInBounds j true) a' w' (fun k ok hk hki hunk hno => hfree k ok hk hki ?_ hno) (ready_mono hr (Ne.symm hji)) (hInv _ _ hI hr hj hji) h4 h5' h6⟩
    by_cases hjk : j = k
    · subst hjk; exact hun
    · rw [getD_set_ne true hjk] at hunk; exact hunk
end
/-- What waits for i, directly or not. -/
def waits (ops : Array Oper) (i : Nat) : List Nat :=
  (List.range ops.size).foldl (fun W k => bif (match ops[k]? with | some o => o.after.any fun e => Region.binds .any e && (Nat.beq e.on i || W.contains e.on) | none => false) then k :: W else W) []
def blkW (ops : Array Oper) (l : Array Bool) (i st : Nat) (W : List Nat) : Bool :=
  W.contains st && !(W.contains i) && W.all fun k => !(l.getD k true) && (match ops[k]? with | some o => o.after.any fun e => Region.binds .any e && (Nat.beq e.on i || W.contains e.on) | none => false)
theorem blkW_next {ops : Array Oper} {l : Array Bool} {i st j : Nat} {W : List Nat} (h : blkW ops l i st W = true) (hi : i ∈ Region.ready .any ops l) (hj : j ∈ Region.ready .any ops l) (hji : j ≠ i) : blkW ops (l.setIfInBounds j true) i st W = true := by
  unfold blkW at *
  simp only [Bool.and_eq_true, List.all_eq_true, Bool.not_eq_true'] at h ⊢
  obtain ⟨⟨h1, h2⟩, h3⟩ := h
  have hjW : j ∉ W := fun hm => by
    obtain ⟨h4, h5⟩ := h3 j hm
    obtain ⟨-, oj, hoj, hall⟩ := mem_ready.1 hj
    rw [hoj] at h5
    simp only [Array.any_eq_true, Bool.and_eq_true, Bool.or_eq_true, List.contains_eq_mem, decide_eq_true_eq] at h5
    obtain ⟨x, hx, hb, he⟩ := h5
    have ht := hall _ (Array.getElem_mem hx) hb
    have hun : l.getD oj.after[x].on true = false := by
      rcases he with he | he
      · rw [Nat.eq_of_beq_eq_true he]; exact (mem_ready.1 hi).1
      · exact (h3 _ he).1
    generalize oj.after[x].on = y at *
    rcases Nat.lt_or_ge y l.size with h' | h'
    · simp [h'] at hun ht; rw [hun] at ht; cases ht
    · simp [Array.getElem?_eq_none h'] at ht
  refine ⟨⟨h1, h2⟩, fun k hk => ⟨?_, (h3 k hk).2⟩⟩
  rw [getD_set_ne true (fun e => hjW (by rw [e]; exact hk))]
  exact (h3 k hk).1
/-- Till st comes up the one is held, from then on the other. -/
def phS (G : Ctx) (st : Nat) (H1 Hs : List Ent) (l : Array Bool) (w : World) : Prop := bif l.getD st true then Holds G Hs w else Holds G H1 w
theorem phS_set {G : Ctx} {st i : Nat} {H1 Hs : List Ent} (h : i ≠ st) (l : Array Bool) (w : World) : phS G st H1 Hs (l.setIfInBounds i true) w ↔ phS G st H1 Hs l w := by unfold phS; rw [getD_set_ne true h]
section
variable {P : Program} {G : Ctx} {n : Sz} {ops : Array Oper} {Q : Post} {s : Fm} {H H1 Hs : List Ent} {o : Oper} {fuel st : Nat} {done : List Nat}
def SP (P : Program) (G : Ctx) (n : Sz) (ops : Array Oper) (Q : Post) (st : Nat) (H1 Hs : List Ent) (fuel : Nat) (done : List Nat) (s : Fm) (H : List Ent) : Prop :=
  (∀ w, Holds G H w → Holds G H1 w) → (mkL ops.size done).getD st true = false → ∀ a w, Fr n s a → Holds G H w → runs P .any ops (np (lift G n Q)) (phS G st H1 Hs) fuel (mkL ops.size done) a w
def SPT (P : Program) (G : Ctx) (n : Sz) (ops : Array Oper) (Q : Post) (st : Nat) (H1 Hs : List Ent) (fuel : Nat) (done : List Nat) (s : Fm) (H : List Ent) (_k : Nat) : Prop := SP P G n ops Q st H1 Hs fuel done s H
def spQ (P : Program) (G : Ctx) (n : Sz) (ops : Array Oper) (Q : Post) (st : Nat) (H1 Hs : List Ent) (fuel : Nat) (done : List Nat) : Post
  | .normal, s, H => (∀ w, Holds G H w → Holds G H1 w) ∧ SP P G n ops Q st H1 Hs fuel done s H
  | _, _, _ => False
theorem c_phase {id : Nat} {l : List Oper} [h : Wide P] (st : Nat) (H1 Hs : List Ent) (hs : ∀ w, Holds G H w → Holds G H1 w) (hst : Nat.blt st l.length = true) (hk : SPT P G n l.toArray Q st H1 Hs l.length [] s H 0) : SW P G n (.region id l.toArray true) Q s H := fun a w ha hw => by
  refine Code.wp_mono np_imp (wp_region_any h.here (runs_any (S := phS G st H1 Hs) _ _ _ _ ?_))
  have h9 : st < l.length := by simpa [Nat.blt_eq] using hst
  have := hk hs (by simp [mkL, h9]) a _ ha hw.drew
  rw [mkL_nil] at this
  simpa using this
theorem sp_back {k : Nat} (hs : ∀ w, Holds G H w → Holds G H1 w) (h : SPT P G n ops Q st H1 Hs fuel done s H k) : AtQ (spQ P G n ops Q st H1 Hs fuel done) .normal s H := ⟨hs, h⟩
theorem spt_skip {k m : Nat} [hm : NSucc k m] (_hk : done.contains k = true) (h : SPT P G n ops Q st H1 Hs fuel done s H m) : SPT P G n ops Q st H1 Hs fuel done s H k := h
theorem spt_next {k m : Nat} [hm : NSucc k m] (_hk : Nat.blt k ops.size = true) (h : SPT P G n ops Q st H1 Hs fuel done s H m) : SPT P G n ops Q st H1 Hs fuel done s H k := h
/-- What st waits for yields by reading what is held till then. -/
theorem spt_take {k m d : Nat} [hm : NSucc k m] (ho : ops[k]? = some o) (hg : o.guard = none) (hd : o.dst = some d) (h2 : Nat.blt d n.n = true) (hns : Region.noSelect ops = true) (hr : (Region.ready .any ops (mkL ops.size done)).contains k = true) (hf : Region.free .any ops (mkL ops.size done) k = true) (hb : blkW ops (mkL ops.size done) k st (waits ops k) = true)
    (h : SY P G n H1 o s fun v => SPT P G n ops Q st H1 Hs fuel (k :: done) ((d, v) :: s) H m) : SPT P G n ops Q st H1 Hs (fuel + 1) done s H k := fun hs hst a w ha hw => by
  obtain ⟨v, hy, hk⟩ := h
  have hks : k ≠ st := fun e => by
    subst e
    unfold blkW at hb
    simp only [Bool.and_eq_true, Bool.not_eq_true'] at hb
    rw [hb.1.1] at hb
    cases hb.1.2
  have hsl : ∀ l w, phS G st H1 Hs (l.setIfInBounds k true) w ↔ phS G st H1 Hs l w := phS_set hks
  refine runs_first (T := Holds G H1) (Inv := fun l => blkW ops l k st (waits ops k) = true) ho (Region.noSelect_spec hns) (fun _ _ _ e => e) (fun l j h1 h2 h3 h4 => blkW_next h1 h2 h3 h4) (fun l w h1 h2 => ?_) hsl fuel _ a w (Region.free_spec ho hf) (by simpa using hr) hb (.inl ⟨Want.wanted (.inl hg) ha, fun w' hw' => hy a w' ha hw'⟩) ?_ ?_
  · unfold blkW at h1
    simp only [Bool.and_eq_true, List.all_eq_true, Bool.not_eq_true', List.contains_eq_mem, decide_eq_true_eq] at h1
    have := (h1.2 st h1.1.1).1
    unfold phS at h2
    rw [this] at h2
    exact h2
  · unfold phS; rw [hst]; exact hs w hw
  · rw [mkL_set]
    refine hk hs ?_ _ w ?_ hw
    · rw [← mkL_set, getD_set_ne true hks]; exact hst
    · rw [← updd hd v]
      exact ha.put _ _ (okd hd h2)
/-- What yields whatever is held of the two. -/
theorem spt_take0 {k m d : Nat} [hm : NSucc k m] (ho : ops[k]? = some o) (hg : o.guard = none) (hd : o.dst = some d) (h2 : Nat.blt d n.n = true) (hns : Region.noSelect ops = true) (hr : (Region.ready .any ops (mkL ops.size done)).contains k = true) (hf : Region.free .any ops (mkL ops.size done) k = true) (hks : Nat.beq k st = false) (hsub : ∀ w, Holds G H1 w → Holds G Hs w)
    (h : SY P G n Hs o s fun v => SPT P G n ops Q st H1 Hs fuel (k :: done) ((d, v) :: s) H m) : SPT P G n ops Q st H1 Hs (fuel + 1) done s H k := fun hs hst a w ha hw => by
  obtain ⟨v, hy, hk⟩ := h
  have hks : k ≠ st := fun e => by subst e; rw [Nat.beq_refl] at hks; cases hks
  refine runs_first (T := Holds G Hs) (Inv := fun _ => True) ho (Region.noSelect_spec hns) (fun _ _ _ e => e) (fun _ _ _ _ _ _ => trivial) (fun l w _ h2 => ?_) (phS_set hks) fuel _ a w (Region.free_spec ho hf) (by simpa using hr) trivial (.inl ⟨Want.wanted (.inl hg) ha, fun w' hw' => hy a w' ha hw'⟩) ?_ ?_
  · unfold phS at h2
    cases hq : l.getD st true with
    | true => rw [hq] at h2; exact h2
    | false => rw [hq] at h2; exact hsub w h2
  · unfold phS; rw [hst]; exact hs w hw
  · rw [mkL_set]
    refine hk hs ?_ _ w ?_ hw
    · rw [← mkL_set, getD_set_ne true hks]; exact hst
    · rw [← updd hd v]
      exact ha.put _ _ (okd hd h2)
theorem runs_of_held {Q : Exit → Act → World → Prop} : ∀ (m : Nat) (l : Array Bool) (a : Act) (w : World), l.getD st true = true → wpAnyH P .any ops Q (Holds G Hs) m l a w → runs P .any ops Q (phS G st H1 Hs) m l a w
  | 0, _, _, _, _, h => h
  | m + 1, l, _, _, hl, h => ⟨h.1, fun i hi => wpOp_mono (fun a' w' h' => by
      have hl' : (l.setIfInBounds i true).getD st true = true := by
        by_cases e : i = st
        · subst e
          by_cases hz : i < l.size
          · simp [hz]
          · simp [hz]
        · rw [getD_set_ne true e]; exact hl
      refine ⟨?_, runs_of_held m _ a' w' hl' h'.2⟩
      unfold phS
      rw [hl']
      exact h'.1) (h.2 i hi)⟩
def SPA (P : Program) (G : Ctx) (n : Sz) (ops : Array Oper) (Q : Post) (st : Nat) (H1 Hs : List Ent) (fuel : Nat) (done : List Nat) (s : Fm) (H : List Ent) (k : Nat) : Prop :=
  ∀ i, k ≤ i → i ∈ Region.ready .any ops (mkL ops.size done) → ∃ o, ops[i]? = some o ∧ ((i ≠ st ∧ SL P G n ops (spQ P G n ops Q st H1 Hs fuel (i :: done)) [o] s H) ∨ (i = st ∧ SL P G n ops (soQ P G n ops Q Hs fuel (i :: done)) [o] s H))
theorem spa_end {k : Nat} (hk : Nat.ble ops.size k = true) : SPA P G n ops Q st H1 Hs fuel done s H k := fun i hi hr => by
  have := (mem_ready.1 hr).2
  obtain ⟨o, ho, -⟩ := this
  have h1 := Nat.le_of_ble_eq_true hk
  rw [Array.getElem?_eq_none (by omega)] at ho
  cases ho
theorem spa_no {k m : Nat} [hm : NSucc k m] (hr : (Region.ready .any ops (mkL ops.size done)).contains k = false) (h : SPA P G n ops Q st H1 Hs fuel done s H m) : SPA P G n ops Q st H1 Hs fuel done s H k := fun i hi hi2 => by
  rcases Nat.eq_or_lt_of_le hi with rfl | hlt
  · rw [List.contains_eq_mem, decide_eq_false_iff_not] at hr
    exact absurd hi2 hr
  · exact h i (by rw [hm.here]; omega) hi2
theorem spa_yes {k m : Nat} [hm : NSucc k m] (ho : ops[k]? = some o) (hks : Nat.beq k st = false) (h1 : SL P G n ops (spQ P G n ops Q st H1 Hs fuel (k :: done)) [o] s H) (h : SPA P G n ops Q st H1 Hs fuel done s H m) : SPA P G n ops Q st H1 Hs fuel done s H k := fun i hi hi2 => by
  rcases Nat.eq_or_lt_of_le hi with rfl | hlt
  · exact ⟨o, ho, .inl ⟨fun e => (by subst e; rw [Nat.beq_refl] at hks; cases hks), h1⟩⟩
  · exact h i (by rw [hm.here]; omega) hi2
theorem spa_st {k m : Nat} [hm : NSucc k m] (ho : ops[k]? = some o) (hks : Nat.beq k st = true) (h1 : SL P G n ops (soQ P G n ops Q Hs fuel (k :: done)) [o] s H) (h : SPA P G n ops Q st H1 Hs fuel done s H m) : SPA P G n ops Q st H1 Hs fuel done s H k := fun i hi hi2 => by
  rcases Nat.eq_or_lt_of_le hi with rfl | hlt
  · exact ⟨o, ho, .inr ⟨Nat.eq_of_beq_eq_true hks, h1⟩⟩
  · exact h i (by rw [hm.here]; omega) hi2
theorem spt_all {k : Nat} (hr : (Region.ready .any ops (mkL ops.size done)).isEmpty = false) (h : SPA P G n ops Q st H1 Hs fuel done s H 0) : SPT P G n ops Q st H1 Hs (fuel + 1) done s H k := fun hs hst a w ha hw => by
  refine runs_mk (fun e => by rw [e] at hr; cases hr) fun i hi => ?_
  obtain ⟨o, ho, hsl⟩ := h i (Nat.zero_le _) hi
  have go : ∀ Q' : Post, (∀ e s H, e ≠ .normal → ¬ Q' e s H) → (∀ a w s' H', Fr n s' a → Holds G H' w → Q' .normal s' H' → phS G st H1 Hs (mkL ops.size (i :: done)) w ∧ runs P .any ops (np (lift G n Q)) (phS G st H1 Hs) fuel (mkL ops.size (i :: done)) a w) → SL P G n ops Q' [o] s H → wpOp P ops (np (lift G n Q)) i (fun a' w' => phS G st H1 Hs ((mkL ops.size done).setIfInBounds i true) w' ∧ runs P .any ops (np (lift G n Q)) (phS G st H1 Hs) fuel ((mkL ops.size done).setIfInBounds i true) a' w') a w := by
    intro Q' hno hq hsl
    have h1 := hsl a w ha hw
    rw [mkL_set]
    unfold wpList at h1
    unfold wpOp
    simp only [ho]
    have hK : ∀ a w, wpList P ops (lift G n Q') [] a w → phS G st H1 Hs (mkL ops.size (i :: done)) w ∧ runs P .any ops (np (lift G n Q)) (phS G st H1 Hs) fuel (mkL ops.size (i :: done)) a w := fun a w hq' => by
      obtain ⟨s', H', ha', hw', h2⟩ := hq'
      exact hq a w s' H' ha' hw' h2
    split
    · rename_i hwn
      rw [if_pos hwn] at h1
      rcases h1 with h1 | ⟨-, a1, w1, s1, H1, -, -, hf⟩
      · exact .inl (Oper.wp_imp hK (fun c a w ⟨_, _, _, _, hq⟩ => hno _ _ _ (by simp) hq) (fun a w ⟨_, _, _, _, hq⟩ => hno _ _ _ (by simp) hq) h1)
      · exact (hno _ _ _ (by simp) hf).elim
    · rename_i hwn
      rw [if_neg hwn] at h1
      exact hK _ _ h1
  rcases hsl with ⟨hne, hsl⟩ | ⟨he, hsl⟩
  · refine go _ (fun e s H he hq => ?_) (fun a w s' H' ha' hw' hq => ?_) hsl
    · cases e <;> (first | exact he rfl | exact hq)
    · obtain ⟨h2, h3⟩ := hq
      have hst' : (mkL ops.size (i :: done)).getD st true = false := by rw [← mkL_set, getD_set_ne true hne]; exact hst
      refine ⟨?_, h3 h2 hst' a w ha' hw'⟩
      unfold phS
      rw [hst']
      exact h2 w hw'
  · subst he
    have hst' : (mkL ops.size (i :: done)).getD i true = true := by
      rw [← mkL_set]
      by_cases hz : i < (mkL ops.size done).size
      · simp [hz]
      · simp [hz]
    refine go _ (fun e s H he hq => ?_) (fun a w s' H' ha' hw' hq => ?_) hsl
    · cases e <;> (first | exact he rfl | exact hq)
    · obtain ⟨h2, h3⟩ := hq
      refine ⟨?_, runs_of_held _ _ _ _ hst' (h3 h2 a w ha' hw')⟩
      unfold phS
      rw [hst']
      exact h2 w hw'
theorem g_spt {k : Nat} (h : SPT P G n ops Q st H1 Hs fuel done s H k) : SPT P G n ops Q st H1 Hs fuel done s H k := h
theorem g_spa {k : Nat} (h : SPA P G n ops Q st H1 Hs fuel done s H k) : SPA P G n ops Q st H1 Hs fuel done s H k := h
theorem g_atsp (h : AtQ (spQ P G n ops Q st H1 Hs fuel done) .normal s H) : AtQ (spQ P G n ops Q st H1 Hs fuel done) .normal s H := h
end
end Go.Sx
namespace Go.Sx
open Go Go.RowKit Go.Fw
def rowObj (e : TypeId) (cs : List Value) : Obj := .cells cs.toArray e (cs.length, cs.length + 1)
theorem bytesObj_row (e : TypeId) (xs : List Int) (m : Nat) : bytesObj e xs m = rowObj e (octs xs ++ List.replicate m (Value.int .u8 0)) := by
  unfold bytesObj rowObj
  simp [octs]
/-- A row of bytes: what is held, where it lies, how long it is. -/
inductive BufE (e : TypeId) : Ent → Option Addr → Nat → Nat → List Int → Prop where
  | own (a : Option Addr) (n c : Nat) (xs : List Int) : BufE e (.own e 1 a n c (octs xs)) a n c xs
  | obj (g n c : Nat) (xs : List Int) (tl : List Value) (hn : n = xs.length) (hc : c = n + tl.length) (hm : c ≤ maxLen) : BufE e (.obj g (rowObj e (octs xs ++ tl))) (some ⟨g, 0, none⟩) n c xs
class PickE (H : List Ent) (X : Ent) (H' : outParam (List Ent)) : Prop where
  here : Pick X H H'
instance (priority := low) pickETail {H H' : List Ent} {X x : Ent} [h : PickE H X H'] : PickE (x :: H) X (x :: H') := ⟨.there h.here⟩
instance pickEHead {H : List Ent} {X : Ent} : PickE (X :: H) X H := ⟨.here _⟩
section
variable {P : Program} {G : Ctx} {n : Sz} {ops : Array Oper} {Q : Post} {s : Fm} {H : List Ent} {o : Oper} {rest : List Oper}
theorem rowObj_at {w : World} {g : Nat} {e : TypeId} {cs : List Value} (h : w.heap[g]? = some (rowObj e cs)) (k : Nat) : w.cell? ⟨g, k, none⟩ = cs[k]? := by
  unfold World.cell?
  simp only [h, rowObj]
  simp
theorem rowObj_fz {w : World} {g : Nat} {e : TypeId} {cs : List Value} (h : w.heap[g]? = some (rowObj e cs)) (k : Nat) (hk : k < cs.length) : w.frozen? ⟨g, k, none⟩ = false := by
  unfold World.frozen?
  simp only [h, rowObj]
  have : ¬ cs.length ≤ k := by omega
  simp [this]
theorem BufE.rd {e : TypeId} {X : Ent} {a : Option Addr} {m c : Nat} {xs : List Int} (h : BufE e X a m c xs) (H : List Ent) : RdC G (X :: H) a (octs xs) := by
  cases h with
  | own => exact rdOwn
  | obj g n c xs tl hn hc hm =>
    refine ⟨fun w hw => ?_⟩
    have h := (hw.ok _ (List.mem_cons_self (a := Ent.obj g (rowObj e (octs xs ++ tl))))).2
    rcases row_at (show w.heap[g]? = some (.cells (octs xs ++ tl).toArray e ((octs xs ++ tl).length, (octs xs ++ tl).length + 1)) from h) with h2 | ⟨b, off, e1, h3, h4⟩
    · exact .inl (List.append_eq_nil_iff.1 h2).1
    · refine .inr ⟨b, off, e1, h3, fun i hi => ?_⟩
      rw [h4 i (by rw [List.length_append]; omega), List.getElem?_append_left hi]
theorem BufE.len {e : TypeId} {X : Ent} {a : Option Addr} {m c : Nat} {xs : List Int} (h : BufE e X a m c xs) {w : World} (hw : Holds G (X :: H) w) : m = xs.length := by
  cases h with
  | own =>
    have := (hw.ok _ List.mem_cons_self : w.ownsRow G.B e 1 (.slice a m c) m (octs xs)).1
    simp [octs] at this
    exact this.symm
  | obj g n c xs tl hn hc hm => exact hn
/-- One byte more. -/
theorem c_appendB {x y : Operand} {t e bytes d : Nat} {a a2 : Option Addr} {len c c2 : Nat} {xs : List Int} {v : Int} {X : Ent} {H' : List Ent} (hX : BufE e X a len c xs) (hg : o.guard = none) (ho : o.op = .call { callee := .builtin .append, args := #[x, y], argTypes := #[t, t] })
    [hT : SliceT P t e 1 bytes] (hx : ev s x = some (.slice a len c)) [hp : PickE H X H'] (hy : ev s y = some (.slice a2 1 c2)) [hr : RdC G H a2 [.int .u8 v]] (hb : (len + 1) * bytes ≤ 140737488355328) (h1d : o.dst = some d) (h2d : Nat.blt d n.n = true)
    (h : ∀ X' a' c', BufE e X' a' (len + 1) c' (xs ++ [v]) → SL P G n ops Q rest ((d, .slice a' (len + 1) c') :: s) (X' :: H')) : SL P G n ops Q (o :: rest) s H := by
  have hoc : octs (xs ++ [v]) = octs xs ++ [.int .u8 v] := by simp [octs]
  cases hX with
  | own =>
    haveI : PickOwn H a e 1 len c (octs xs) H' := ⟨hp.here⟩
    refine c_append (news := [.int .u8 v]) hg ho hx hy rfl rfl hb h1d h2d fun a' c' => ?_
    rw [← hoc]
    exact h _ a' c' (.own a' (len + 1) c' (xs ++ [v]))
  | obj g n' c xs tl hn hc hm =>
    intro act w ha hw
    have hd := okd (n := n) h1d h2d
    simp only [← updd h1d] at h
    replace hg : Want ops o s := .inl hg
    have hwp := hw.pick hp.here
    obtain ⟨hB, hh⟩ : G.B ≤ g ∧ w.heap[g]? = some (rowObj e (octs xs ++ tl)) := hwp.ok _ List.mem_cons_self
    obtain ⟨hu, hsz, hby, z, hz, hzs⟩ := hT.here
    obtain ⟨i0, hi0, hz0, hz1, hz2⟩ := info_parts hz
    obtain ⟨b2, off2, rfl, hc2⟩ := At.someAt (hr.here w hw) (by simp)
    have hlen : len + 1 ≤ 140737488355328 := Nat.le_trans (Nat.le_mul_of_pos_right _ hby) hb
    have hol : (octs xs).length = len := by rw [hn]; simp [octs]
    have hnews : ∀ j u, [Value.int .u8 v][j]? = some u → w.cell? ((⟨b2, off2, none⟩ : Addr).add j) = some u := fun j u hj => by
      rw [Addr.add_mid]; exact (hc2 j (List.getElem?_eq_some_iff.1 hj).1).trans hj
    obtain ⟨hap, hapH⟩ := List.pairwise_cons.1 hwp.apart
    refine wpList_step fun K hK => ?_
    rw [if_pos (hg.wanted ha)]
    unfold Oper.wp execOp
    simp only [ho, resolve, invoke, builtin, Sem.run_bind, Sem.run_pure, Result.andThen_ok, List.map_toArray, List.map_cons, List.map_nil, ha.ev hx, ha.ev hy]
    by_cases hroom : len + 1 ≤ c
    · cases tl with
      | nil => simp at hc; omega
      | cons u tl =>
        have hcl : (octs xs ++ u :: tl).length = c := by rw [List.length_append, hol, hc]
        have hcell : ∀ j, j < [Value.int .u8 v].length → (w.cell? ⟨g, 0 + len * i0.size + j, none⟩).isSome = true := fun j hj => by
          simp only [List.length_singleton] at hj
          rw [hz1, rowObj_at hh, List.getElem?_eq_getElem (by omega)]; rfl
        have hfz : ∀ j, j < [Value.int .u8 v].length → w.frozen? ⟨g, 0 + len * i0.size + j, none⟩ = false := fun j hj => by
          simp only [List.length_singleton] at hj
          rw [hz1]
          exact rowObj_fz hh _ (by omega)
        have hrun := run_append_room_cells (P := P) w t o.type e i0 hu hi0 g 0 len c ⟨b2, off2, none⟩ 1 c2 [.int .u8 v] (by rw [hz1]; rfl) hnews (by intro u hu; simp at hu; subst hu; rfl) hroom hcell hfz
        simp only [hrun, Result.andThen_ok]
        have hset : w.setCells g (0 + len * i0.size) [.int .u8 v] = w.setCell ⟨g, len, none⟩ (.int .u8 v) := by
          rw [hz1, show 0 + len * 1 = len from by omega]; rfl
        rw [hset]
        have hrow : (w.setCell ⟨g, len, none⟩ (.int .u8 v)).heap[g]? = some (rowObj e (octs (xs ++ [v]) ++ tl)) := by
          unfold World.setCell
          simp only [Array.getElem?_modify, if_true, hh, Option.map_some, rowObj]
          congr 1
          simp only [Option.isSome_none, Bool.false_eq_true, if_false]
          rw [List.setIfInBounds_toArray]
          have e1 : (octs xs ++ u :: tl).set len (.int .u8 v) = octs (xs ++ [v]) ++ tl := by
            rw [List.set_append_right _ _ (by omega), hol, Nat.sub_self, hoc]
            simp
          rw [e1]
          have e2 : (octs xs ++ u :: tl).length = (octs (xs ++ [v]) ++ tl).length := by rw [hoc]; simp
          rw [e2]
        have ho2 : ∀ j, j ≠ g → (w.setCell ⟨g, len, none⟩ (.int .u8 v)).heap[j]? = w.heap[j]? := fun j hj => Below.heap_setCell w _ _ j hj
        have hw' : Holds G (.obj g (rowObj e (octs (xs ++ [v]) ++ tl)) :: H') (w.setCell ⟨g, len, none⟩ (.int .u8 v)) := by
          refine ⟨hwp.below.setCell hB _, by simpa [World.setCell] using hwp.base, fun z hz => ?_, List.pairwise_cons.2 ⟨fun y hy k hk => hap y hy k hk, hapH⟩⟩
          rcases List.mem_cons.1 hz with rfl | hz
          · exact ⟨hB, hrow⟩
          · exact Ent.ok_of (hwp.ok z (List.mem_cons_of_mem _ hz)) fun j hj => ho2 j (fun e => hap z hz g rfl (e ▸ hj))
        exact hK _ _ (h _ (some ⟨g, 0, none⟩) c (.obj g (len + 1) c (xs ++ [v]) tl (by simp; omega) (by simp at hc; omega) hm) _ _ (ha.put _ _ hd) hw')
    · obtain ⟨v', w', hrun, r1, r2⟩ := run_append_arg_grows (P := P) w t o.type e i0 z 1 bytes hu hi0 hz0 hz1 hz2 hzs (by decide) ⟨g, 0, none⟩ len c (octs xs) (by omega) (fun j u hj => by
          rw [Addr.add_mid, Nat.zero_add, rowObj_at hh, List.getElem?_append_left (List.getElem?_eq_some_iff.1 hj).1]; exact hj) ⟨b2, off2, none⟩ 1 c2 [.int .u8 v] rfl hnews (by omega) (by unfold maxLen; omega) hb
      simp only [hrun, Result.andThen_ok]
      rcases r1.2 with ⟨-, h0⟩ | ⟨g1, cap, cur, rfl, hbg, hcells, hnc, hcm, hcs, htake⟩
      · omega
      · have hw1 : Holds G H' w' := hwp.drop.stepped none r2 (fun k hk => by cases hk) (fun x hx k hk e => by cases e)
        refine hK _ _ (h _ (some ⟨g1, 0, none⟩) cap (.own _ (len + 1) cap (xs ++ [v])) _ _ (ha.put _ _ hd) ?_)
        refine ⟨hw1.below, hw1.base, fun x hx => ?_, List.pairwise_cons.2 ⟨fun y hy k hk => ?_, hw1.apart⟩⟩
        · rcases List.mem_cons.1 hx with rfl | hx
          · rw [hoc]
            exact ⟨r1.1, .inr ⟨g1, cap, cur, rfl, Nat.le_trans hwp.base hbg, hcells, hnc, hcm, hcs, htake⟩⟩
          · exact hw1.ok x hx
        · intro hyk
          have e1 : k = g1 := by simp only [Ent.key, Value.ownBlock, Option.some.injEq] at hk; exact hk.symm
          have := (Ent.ok_lt (hwp.drop.ok y hy) hyk).2
          omega
/-- The beginning of a row. -/
theorem c_sliceTakeB {t e bytes : Nat} {x : Operand} {hi : Option Operand} {a : Option Addr} {len c : Nat} {h : Int} {xs : List Int} {X : Ent} {H' : List Ent} (hX : BufE e X a len c xs) (ho : o.op = .slice t x none hi none) [hT : SliceT P t e 1 bytes] [hp : PickE H X H'] (hx : ev s x = some (.slice a len c)) (hh : bnd s len hi = some h) (h1 : 0 ≤ h) (h2 : h ≤ len) : Yields P G n s H o (.slice a h.toNat c) := by
  cases hX with
  | own =>
    haveI : PickOwn H a e 1 len c (octs xs) H' := ⟨hp.here⟩
    exact c_sliceTake ho hx hh h1 h2
  | obj g n' c xs tl hn hc hm => exact y_slice0 ho hx hh h1 (by omega)
theorem BufE.shrink {e : TypeId} {X : Ent} {a : Option Addr} {len c m : Nat} {xs : List Int} (hX : BufE e X a len c xs) (hm : m ≤ len) : ∃ X', BufE e X' a m c (xs.take m) ∧ ∀ w H, Holds G (X :: H) w → Holds G (X' :: H) w := by
  cases hX with
  | own =>
    refine ⟨_, .own a m c (xs.take m), fun w H hw => ?_⟩
    have := hw.shrinkA hm
    rw [Nat.mul_one] at this
    rw [show octs (xs.take m) = (octs xs).take m from by simp [octs, List.map_take]]
    exact this
  | obj g n' c xs tl hn hc hcm =>
    have e1 : octs (xs.take m) ++ (octs (xs.drop m) ++ tl) = octs xs ++ tl := by rw [← List.append_assoc, ← (by simp [octs] : octs (xs.take m ++ xs.drop m) = octs (xs.take m) ++ octs (xs.drop m)), List.take_append_drop]
    refine ⟨.obj g (rowObj e (octs (xs.take m) ++ (octs (xs.drop m) ++ tl))), .obj g m c (xs.take m) (octs (xs.drop m) ++ tl) (by rw [List.length_take]; omega) (by rw [List.length_append, hc]; simp [octs]; omega) hcm, fun w H hw => ?_⟩
    rw [e1]
    exact hw
/-- A text made to a row of bytes. -/
theorem BufE.conv {e : TypeId} {g c : Nat} (b : ByteArray) (hc : b.size ≤ c) (hm : c ≤ maxLen) : BufE e (.obj g (bytesObj e (nums b) (c - b.size))) (some ⟨g, 0, none⟩) b.size c (nums b) := by
  rw [bytesObj_row]
  exact .obj g b.size c (nums b) _ (nums_length b).symm (by rw [List.length_replicate]; omega) hm
theorem c_convB {src dst e bytes d : Nat} {x : Operand} {b : ByteArray} (hg : o.guard = none) (ho : o.op = .convert src dst x) [hs : StrT P src] [hT : SliceT P dst e 1 bytes] [he : IntT P e .u8] (hx : ev s x = some (.string b)) (hb : b.size ≤ 140737488355328) (h1d : o.dst = some d) (h2d : Nat.blt d n.n = true)
    (hk : ∀ X a c, BufE e X a b.size c (nums b) → SL P G n ops Q rest ((d, .slice a b.size c) :: s) (X :: H)) : SL P G n ops Q (o :: rest) s H := by
  obtain ⟨hu, -, -, -⟩ := hT.here
  have hd := okd (n := n) h1d h2d
  simp only [← updd h1d] at hk
  refine sl_op (.inl hg) fun act w ha hw K hK => ?_
  have hcap : b.size ≤ grownCap w b.size 0 e := grownCap_ge w b.size 0 e
  have hcm : grownCap w b.size 0 e ≤ maxLen := grownCap_le_maxLen w b.size 0 e (by unfold maxLen; omega)
  have hrun := run_bytes_of_string (P := P) w src dst e b hs.here hu he.here
  rw [bytesRow_eq b _ hcap] at hrun
  unfold Oper.wp execOp
  simp only [ho, ha.ev hx, Sem.run_bind, hrun, Result.andThen_ok]
  have hw2 : Holds G (.obj w.heap.size (bytesObj e (nums b) (grownCap w b.size 0 e - b.size)) :: H) (w.drew.alloc (bytesObj e (nums b) (grownCap w b.size 0 e - b.size))) := by
    refine hw.obj (by simp [World.alloc, World.drew, -World.alloc_eq, -World.drew_eq]) (by simp [World.alloc, World.drew, -World.alloc_eq, -World.drew_eq]) (fun k hk => ?_) rfl rfl rfl
    exact Below.heap_alloc w.drew _ k hk
  exact hK _ _ (hk _ _ _ (BufE.conv b hcap hcm) _ _ (ha.put _ _ hd) hw2)
end
end Go.Sx
end
section
namespace Go.Fw
open Go Go.RowKit Go.Sx
end Go.Fw
namespace Go.Proofs.YtmbfechiallppaaGreatDoor
open Go Go.RowKit Go.Fw Go.Sx
/-- The four words as cells. -/
def wordsL (f : Nat → Nat) : List Value := [.int .u64 (f 0), .int .u64 (f 1), .int .u64 (f 2), .int .u64 (f 3)]
def Wf (f : Nat → Nat) : Prop := ∀ j, j < 4 → f j < 18446744073709551616
theorem wordsL_at (f : Nat → Nat) (j : Nat) (h : j < 4) : (wordsL f)[j]? = some (.int .u64 (f j)) := by
  match j, h with
  | 0, _ => rfl
  | 1, _ => rfl
  | 2, _ => rfl
  | 3, _ => rfl
def setF (f : Nat → Nat) (c : Nat) : Nat → Nat := fun j => if j = c / 64 then f j ||| 2 ^ (c % 64) else f j
theorem wordsL_set (f g : Nat → Nat) (j : Nat) (h : j < 4) (hg : ∀ i, i ≠ j → g i = f i) : (wordsL f).set j (.int .u64 (g j)) = wordsL g := by
  match j, h with
  | 0, _ => simp [wordsL, hg 1 (by omega), hg 2 (by omega), hg 3 (by omega)]
  | 1, _ => simp [wordsL, hg 0 (by omega), hg 2 (by omega), hg 3 (by omega)]
  | 2, _ => simp [wordsL, hg 0 (by omega), hg 1 (by omega), hg 3 (by omega)]
  | 3, _ => simp [wordsL, hg 0 (by omega), hg 1 (by omega), hg 2 (by omega)]
theorem pw_nat (k : Nat) (h : k < 64) : pw k = ((2 ^ k : Nat) : Int) ∧ 2 ^ k < 18446744073709551616 := ⟨by rw [pw_eq]; simp, Nat.pow_lt_pow_right (a := 2) (by omega) h⟩
theorem set_word (f : Nat → Nat) (c : Nat) (hf : Wf f) (hc : c < 256) : ibits .or .u64 (f (c / 64)) (pw (c % 64)) = setF f c (c / 64) ∧ Wf (setF f c) := by
  obtain ⟨h1, h2⟩ := pw_nat (c % 64) (by omega)
  refine ⟨?_, fun j hj => ?_⟩
  · rw [ibits_eq, h1, u64_or_nat _ _ (hf _ (by omega)) h2]
    unfold setF; rw [if_pos rfl]
  · unfold setF
    split
    · exact Nat.or_lt_two_pow (n := 64) (hf j hj) h2
    · exact hf j hj
end Go.Proofs.YtmbfechiallppaaGreatDoor
end
section
namespace Go.Proofs.YtmbfechiallppaaGreatDoor
open Go Go.RowKit Go.Fw Go.Sx
set_option maxRecDepth 100000
set_option maxHeartbeats 1000000
attribute [local irreducible] SW SL SQ AtQ SV SC BB LD PK Yields SO SOT SOA SY
/-- The usual columns, set one by one. -/
def usF : Nat → (Nat → Nat)
  | 0 => fun _ => 0
  | k + 1 => setF (usF k) (8 * (k + 1))
theorem usF_ok : ∀ k, k ≤ 31 → Wf (usF k)
  | 0, _ => fun _ _ => by show 0 < _; omega
  | k + 1, h => (set_word (usF k) (8 * (k + 1)) (usF_ok k (by omega)) (by omega)).2
theorem usual_sv (G : Ctx) (H : List Ent) : SV Tryz.prog G 87 [] H (.agg (wordsL (usF 31)).toArray) := by
  refine sv_enter0 Tryz.func87 rfl rfl rfl rfl rfl ?_
  repeat' ((first | (apply g_sl; (first | (apply ks_nil; refine sl_nil ?_) | (apply ks_asgn; refine s_asgn rfl rfl ?_) | (apply ks_alloc; refine c_alloc rfl rfl rfl rfl (fun _ => ?_)))) | (apply sw_seq) | (apply sw_block) | ((fail_if_success (refine g_reg (id := 3) ?_)); apply sw_region) | (apply at_thn)))
  rename_i b b1
  refine sw_loopg (α := Nat) (fun k => [(0, .pointer (some ⟨b, 0, none⟩)), (1, .pointer (some ⟨b1, 0, none⟩)), (2, .int .i64 (8 * ((k : Int) + 1)))]) (fun k => .blk b1 34 (wordsL (usF k)) :: .blk b 34 [.int .u64 0, .int .u64 0, .int .u64 0, .int .u64 0] :: H)
    (fun k => k ≤ 31) (fun k => 31 - k) 0 (by decide) (by repeat ((first | exact Le.nil _ | refine Le.cons (by (rfl)) ?_))) (fun _ hw => hw.subs (by repeat ((first | refine Subs.cons (by repeat constructor) ?_ | exact Subs.sub (by repeat ((exact List.Sublist.refl _))))))) ?_
  intro k hk
  by_cases hlt : k < 31
  · obtain ⟨hs1, -⟩ := set_word (usF k) (8 * (k + 1)) (usF_ok k hk) (by omega)
    have hx := wordsL_at (usF k) (8 * (k + 1) / 64) (by omega)
    have hset1 := wordsL_set (usF k) (setF (usF k) (8 * (k + 1))) (8 * (k + 1) / 64) (by omega) (fun i hi => if_neg hi)
    have hi0 : 0 + ((8 * ((k : Int) + 1)) / 64).toNat * 1 = 8 * (k + 1) / 64 := by omega
    rw [← hi0] at hx hset1 hs1
    have hD : pw ((8 * ((k : Int) + 1)) % 64).toNat = pw (8 * (k + 1) % 64) := by rw [show ((8 * ((k : Int) + 1)) % 64).toNat = 8 * (k + 1) % 64 from by omega]
    have hl1 : 0 + ((8 * ((k : Int) + 1)) / 64).toNat * 1 < (wordsL (usF k)).length := by show _ < 4; omega
    generalize pw (8 * (k + 1) % 64) = D at *
    have hF : setF (usF k) (8 * (k + 1)) = usF (k + 1) := rfl
    rw [hF] at hset1 hs1
    have hnx : 8 * ((k : Int) + 1) + 8 = 8 * (((k + 1 : Nat) : Int) + 1) := by omega
    clear hi0 hF
    repeat' ((first | (apply g_sl; (first | (apply ks_nil; refine sl_nil ?_) | (apply ks_move; refine s_move rfl rfl ?_) | (apply ks_bin; refine s_bin rfl rfl rfl ?_; ((((first | (apply kb_add; (refine bb_add ⟨by omega, by omega⟩ ?_)) | refine bb_of rfl ?_))))) | (apply ks_load; (((refine s_load rfl rfl ?_; refine ld_cell hx ?_)))) | (apply ks_asgn; refine s_asgn rfl rfl ?_) | (apply ks_store; ((((refine c_storekV rfl rfl rfl rfl rfl hset1 hl1 rfl ?_))))))) | (apply g_atso; refine so_back (k := 0) (fun _ hw => hw.subs (by repeat ((exact Subs.sub (by repeat ((first | exact List.Sublist.refl _ | refine List.Sublist.cons _ ?_))))))) ?_) | (apply g_sot; (first | (refine sot_skip rfl ?_) | (refine sot_take rfl rfl rfl rfl (by kernel_rfl) (by decide +kernel) (by decide +kernel) ?_; ((first | (apply ky_move; refine sy_val (y_move rfl rfl) ?_) | (apply ky_bin; refine sy_bin rfl rfl ?_; ((first | (refine bb_shl1V hD (by omega) (by omega) ?_) | (refine bb_bitsV rfl hs1 ?_) | ((first | (apply kb_quo; refine bb_quo ⟨by omega, by omega⟩ (by omega) (by omega) ?_) | (apply kb_rem; refine bb_rem (by omega) (by omega) ?_)))))) | (apply ky_field; (refine sy_val (c_field0 rfl rfl) ?_)) | (apply ky_indexA; (((refine sy_val (c_indexP rfl rfl rfl (by omega) (by omega)) ?_))))))) | (refine sot_next rfl ?_) | (refine so_done (by decide +kernel) ?_) | (refine sot_all (by kernel_rfl) ?_))) | (apply g_soa; (first | (refine soa_end rfl) | (refine soa_no (by decide +kernel) ?_) | (refine soa_yes rfl ?_ ?_))) | (apply sw_seq) | (apply sw_skip) | (apply sw_block) | (apply sw_region) | (refine sw_cd rfl ?_; ((apply gd_dec_t <;> intro hq <;> (try (exfalso; omega))))) | (apply at_thn) | (apply at_inb) | ((refine g_reg (id := 5) ?_; refine c_drawno (H) (fun _ hw => hw.subs (by repeat ((exact Subs.sub (by repeat ((first | exact List.Sublist.refl _ | refine List.Sublist.cons _ ?_))))))) ?_))))
    refine at_meet (k + 1) ⟨by omega, by omega⟩ ?_ (fun _ hw => hw.subs (by repeat ((first | refine Subs.cons (by repeat constructor) ?_ | exact Subs.sub (by repeat ((exact List.Sublist.refl _)))))))
    rw [← hnx]; exact (by repeat ((first | exact Le.nil _ | refine Le.cons (by (rfl)) ?_)))
  · obtain rfl : k = 31 := by omega
    repeat' ((first | (apply g_sl; (first | (apply ks_nil; refine sl_nil ?_) | (apply ks_move; refine s_move rfl rfl ?_) | (apply ks_bin; refine s_bin rfl rfl rfl ?_; (((refine bb_of rfl ?_)))) | (apply ks_load; ((refine s_load rfl rfl ?_; (refine ld_whole rfl ?_)))) | (apply ks_store; ((refine c_storew rfl rfl rfl rfl rfl rfl rfl rfl ?_))))) | (apply sw_seq) | (apply sw_ret) | (apply sw_exit) | (apply sw_region) | (refine sw_cd rfl ?_; ((apply gd_ft))) | (apply at_thn) | (apply at_thn_exit) | (apply at_inb_exit)))
    refine e_scc (H) (by (exact .inr rfl)) rfl (by (rfl)) rfl (fun _ hw => hw.subs (by repeat ((exact Subs.sub (by repeat ((first | exact List.Sublist.refl _ | refine List.Sublist.cons _ ?_))))))) ?_
    exact ⟨rfl, rfl⟩
end Go.Proofs.YtmbfechiallppaaGreatDoor
end
section
namespace Go.Proofs.YtmbfechiallppaaGreatDoor
open Go.RowKit Go.Fw
def inTab (n : Int) (l : List (Int × Int)) : Bool := l.any fun x => decide (x.1 ≤ n ∧ n ≤ x.2)
def inNo (n : Int) (l : List (Int × Int)) (k : Nat) : Prop := ∀ j, j < k → ¬ ((l.getD j (0, 0)).1 ≤ n ∧ n ≤ (l.getD j (0, 0)).2)
theorem inTab_yes (n : Int) (l : List (Int × Int)) (k : Nat) (hk : k < l.length) (h : (l.getD k (0, 0)).1 ≤ n ∧ n ≤ (l.getD k (0, 0)).2) : inTab n l = true := by
  unfold inTab
  rw [List.any_eq_true]
  simp only [List.getD, List.getElem?_eq_getElem hk, Option.getD_some] at h
  exact ⟨l[k], List.getElem_mem hk, by simpa using h⟩
theorem inTab_no (n : Int) (l : List (Int × Int)) (h : inNo n l l.length) : inTab n l = false := by
  unfold inTab
  rw [List.any_eq_false]
  intro x hx
  obtain ⟨j, hj, rfl⟩ := List.getElem_of_mem hx
  have := h j hj
  simp only [List.getD, List.getElem?_eq_getElem hj, Option.getD_some] at this
  simpa using this
set_option maxRecDepth 100000 in
set_option maxHeartbeats 400000 in
theorem in_any (n : Int) (l : List (Int × Int)) (a : Option Addr) (m c : Nat) (w : World) (hm : m = l.length) (hl : m ≤ 1000) (h : At w a (flat2 l)) :
    Calls Tryz.prog 182 #[.int .i64 n, .slice a m c] w fun e w' => e = .returned (.bool (inTab n l)) ∧ Below w.heap.size w w' := by
  have Hm := Lib.hid hm
  clear hm
  go_enter Tryz.func182, Tryz.ntmps182
  go_wp2
  go_loopw [9] (fun i wr => ∃ k : Nat, k ≤ m ∧ i = .int .i64 k ∧ inNo n l k ∧ Below w.heap.size w wr) (fun i _ => m - (intOf i).toNat)
  case atStart => exact ⟨0, Nat.zero_le _, rfl, fun j hj => by omega, Below.refl _ _⟩
  case round =>
    obtain ⟨k, hk, rfl, hno, hbl⟩ := hrel
    by_cases hlt : k < m
    · obtain ⟨b, o, ha, hb, hc⟩ := h.pair (k := k) (by rw [← Hm.out]; exact hlt)
      rw [ha]
      have hcc := hc k (by rw [← Hm.out]; exact hlt)
      have hx := (hbl.cell (p := ⟨b, o + k * 2, none⟩) hb).trans hcc.1
      have hy := (hbl.cell (p := ⟨b, o + k * 2 + 1, none⟩) hb).trans hcc.2
      clear hc ha hcc
      obtain ⟨x, hX⟩ : ∃ x, x = (l.getD k (0, 0)).1 := ⟨_, rfl⟩
      obtain ⟨y, hY⟩ : ∃ y, y = (l.getD k (0, 0)).2 := ⟨_, rfl⟩
      rw [← hX] at hx
      rw [← hY] at hy
      have HX := Lib.hid hX
      have HY := Lib.hid hY
      clear hX hY
      by_cases h1 : x ≤ n ∧ n ≤ y
      · have Hfin := Lib.hid (inTab_yes n l k (by rw [← Hm.out]; exact hlt) (by rw [← HX.out, ← HY.out]; exact h1))
        obtain ⟨h1, h2⟩ := h1
        go_wp2
        go_ret
        exact ⟨ret_bool Hfin.out.symm, hbl.alloc hbl.size _⟩
      · have hno' : inNo n l (k + 1) := fun j hj => by
          rcases Nat.lt_or_ge j k with h | h
          · exact hno j h
          · obtain rfl : j = k := by omega
            rw [← HX.out, ← HY.out]; exact h1
        by_cases h2 : x ≤ n
        all_goals
          go_wp2
          all_goals first
            | (exfalso; omega)
            | (go_roundw
               case rel => exact ⟨k + 1, by omega, by go_num, hno', hbl.alloc hbl.size _⟩
               case measure => simp [intOf]; omega)
    · obtain rfl : k = m := by omega
      have Hfin := Lib.hid (inTab_no n l (by rw [← Hm.out]; exact hno))
      go_wp2
      go_ret
      exact ⟨ret_bool Hfin.out.symm, hbl⟩
def noneTab : List (Int × Int) := [(0, 31), (127, 159), (768, 879), (8203, 8207), (55296, 57343), (65024, 65039)]
def twoTab : List (Int × Int) := [(4352, 4447), (11904, 12350), (12353, 19903), (19968, 42191), (44032, 55203), (63744, 64255), (65072, 65135), (65280, 65376), (65504, 65510), (127744, 128591), (129280, 129535), (131072, 262141)]
def refTab : List (Int × Int) := [(0, 0), (32, 1), (127, 0), (160, 1), (768, 0), (880, 1), (4352, 2), (4448, 1), (8203, 0), (8208, 1), (11904, 2), (12351, 1), (12353, 2), (19904, 1), (19968, 2), (42192, 1), (44032, 2), (55204, 1), (63744, 2), (64256, 1), (65024, 0), (65040, 1), (65072, 2), (65136, 1), (65280, 2), (65377, 1), (65504, 2), (65511, 1), (127744, 2), (128592, 1), (129280, 2), (129536, 1), (131072, 2), (262142, 1)]
def isRune (n : Int) : Bool := decide ((0 ≤ n ∧ n ≤ 55295) ∨ (57344 ≤ n ∧ n ≤ 1114111))
def widthOf (n : Int) : Int := if n < 0 ∨ 1114111 < n ∨ inTab n noneTab = true then 0 else if inTab n twoTab = true then 2 else 1
def refTo (n : Int) (k : Nat) : Int := (refTab.take k).foldl (fun w x => if x.1 ≤ n then x.2 else w) 0
def refWidth (n : Int) : Int := if isRune n = true then refTo n 34 else 0
def tabParts (l : List (Int × Int)) : List (Nat × Value) := l.zipIdx.map fun (x, i) => (i, .agg #[.int .i64 x.1, .int .i64 x.2])
def tabCells (l : List (Int × Int)) : Array Value := (flat2 l).toArray
theorem built_none : Tryz.prog.built 275 (tabParts noneTab) = some (tabCells noneTab) := by kernel_rfl
theorem built_two : Tryz.prog.built 276 (tabParts twoTab) = some (tabCells twoTab) := by kernel_rfl
theorem size_none : (Tryz.prog.info? 275).map (·.size) = some (tabCells noneTab).size := by kernel_rfl
theorem size_two : (Tryz.prog.info? 276).map (·.size) = some (tabCells twoTab).size := by kernel_rfl
theorem one_none : (tabCells noneTab).all (·.oneCell') = true := by kernel_rfl
theorem one_two : (tabCells twoTab).all (·.oneCell') = true := by kernel_rfl
set_option maxRecDepth 100000 in
set_option maxHeartbeats 1000000 in
theorem widthOf_out (n : Int) (w : World) (h0 : n < 0 ∨ 1114111 < n) :
    Calls Tryz.prog 126 #[.int .i64 n] w fun e w' => e = .returned (.int .i64 (widthOf n)) ∧ Below w.heap.size w w' := by
  have Hfin : Hid (widthOf n = 0) := by unfold Hid widthOf; rw [if_pos (by omega)]
  have hd : (decide (n < 0) || decide (1114111 < n)) = true := by simp; omega
  clear h0
  go_enter Tryz.func126, Tryz.ntmps126
  go_wp2_with ((first | ((with_reducible refine fw_build rfl 275 _ rfl (tabParts noneTab) (tabCells noneTab) ?_ built_none ?_); (focus rfl)) | ((with_reducible refine fw_build rfl 276 _ rfl (tabParts twoTab) (tabCells twoTab) ?_ built_two ?_); (focus rfl)) | ((with_reducible refine fw_store_new rfl 275 _ _ rfl _ w.heap.size _ (tabCells noneTab) rfl ?_ ?_ ?_ size_none ?_ one_none ?_); (focus rfl); (focus rfl); (focus rfl); (focus rfl)) | ((with_reducible refine fw_store_new rfl 276 _ _ rfl _ (w.heap.size + 1) _ (tabCells twoTab) rfl ?_ ?_ ?_ size_two ?_ one_two ?_); (focus rfl); (focus rfl); (focus simp); (focus rfl))))
  all_goals
    go_ret
    exact ⟨ret_int Hfin.out.symm, by go_grown⟩
set_option maxRecDepth 100000 in
set_option maxHeartbeats 1000000 in
theorem widthOf_in (n : Int) (w : World) (h0' : 0 ≤ n ∧ n ≤ 1114111) :
    Calls Tryz.prog 126 #[.int .i64 n] w fun e w' => e = .returned (.int .i64 (widthOf n)) ∧ Below w.heap.size w w' := by
  have Hfin : Hid (widthOf n = if inTab n noneTab = true then 0 else if inTab n twoTab = true then 2 else 1) := by
    unfold Hid widthOf
    by_cases h : inTab n noneTab = true
    · rw [if_pos (.inr (.inr h)), if_pos h]
    · rw [if_neg (by rintro (h1 | h1 | h1) <;> (first | omega | exact h h1)), if_neg h]
  go_enter Tryz.func126, Tryz.ntmps126
  go_wp2_with ((first | ((with_reducible refine fw_build rfl 275 _ rfl (tabParts noneTab) (tabCells noneTab) ?_ built_none ?_); (focus rfl)) | ((with_reducible refine fw_build rfl 276 _ rfl (tabParts twoTab) (tabCells twoTab) ?_ built_two ?_); (focus rfl)) | ((with_reducible refine fw_store_new rfl 275 _ _ rfl _ w.heap.size _ (tabCells noneTab) rfl ?_ ?_ ?_ size_none ?_ one_none ?_); (focus rfl); (focus rfl); (focus rfl); (focus rfl)) | ((with_reducible refine fw_store_new rfl 276 _ _ rfl _ (w.heap.size + 1) _ (tabCells twoTab) rfl ?_ ?_ ?_ size_two ?_ one_two ?_); (focus rfl); (focus rfl); (focus simp); (focus rfl))))
  refine (in_any n noneTab _ 6 6 _ rfl (by omega) ((At.newAt (by simp) rfl).alloc _)).mono ?_
  rintro e w1 ⟨rfl, hb1⟩
  have hb : Below w.heap.size w w1 := by refine Below.trans ?_ (hb1.mono ?_) <;> (go_grown)
  have hat : At w1 (some ⟨w.heap.size + 1, 0, none⟩) (flat2 twoTab) := (At.newAt (by simp) rfl).mono hb1
  clear hb1
  cases h1 : inTab n noneTab with
  | true =>
    rw [h1] at Hfin
    clear h1 hat
    go_wp2_with fail
    go_ret
    exact ⟨ret_int Hfin.out.symm, hb⟩
  | false =>
    rw [h1] at Hfin
    clear h1
    go_wp2_with fail
    refine (in_any n twoTab _ 12 12 _ rfl (by omega) hat).mono ?_
    rintro e w2 ⟨rfl, hb2⟩
    have hb3 := ext_trans hb hb2
    clear hat hb2 hb
    cases h2 : inTab n twoTab
    all_goals
      rw [h2] at Hfin
      clear h2
      go_wp2_with fail
      go_ret
      exact ⟨ret_int (by rw [Hfin.out]; rfl), hb3⟩
theorem widthOf_any (n : Int) (w : World) :
    Calls Tryz.prog 126 #[.int .i64 n] w fun e w' => e = .returned (.int .i64 (widthOf n)) ∧ Below w.heap.size w w' := by
  by_cases h0 : n < 0 ∨ 1114111 < n
  · exact widthOf_out n w h0
  · exact widthOf_in n w (by omega)
end Go.Proofs.YtmbfechiallppaaGreatDoor
end
section
namespace Go.Proofs.YtmbfechiallppaaGreatDoor
open Go.RowKit Go.Fw
theorem refWidth_bd (n : Int) : 0 ≤ refWidth n ∧ refWidth n ≤ 2 := by
  unfold refWidth refTo
  split
  · have : ∀ (l : List (Int × Int)) (w : Int), (∀ x ∈ l, 0 ≤ x.2 ∧ x.2 ≤ 2) → 0 ≤ w ∧ w ≤ 2 → 0 ≤ l.foldl (fun w x => if x.1 ≤ n then x.2 else w) w ∧ l.foldl (fun w x => if x.1 ≤ n then x.2 else w) w ≤ 2 := by
      intro l
      induction l with
      | nil => intro w _ h; exact h
      | cons x l ih =>
        intro w hl h
        rw [List.foldl_cons]
        refine ih _ (fun y hy => hl y (by simp [hy])) ?_
        have := hl x (by simp)
        split <;> omega
    exact this _ _ (by decide) (by omega)
  · omega
def refWidths (l : List Int) : Int := (l.map refWidth).sum
theorem refWidths_succ (l : List Int) (k : Nat) (hk : k < l.length) : refWidths (l.take (k + 1)) = refWidths (l.take k) + refWidth (l.getD k 0) := by
  unfold refWidths
  rw [List.take_succ_eq_append_getElem hk]
  rw [List.map_append, List.sum_append]
  simp only [List.map_cons, List.map_nil, List.sum_cons, List.sum_nil, List.getD, List.getElem?_eq_getElem hk, Option.getD_some, Int.add_zero]
end Go.Proofs.YtmbfechiallppaaGreatDoor
end
section
namespace Go.Proofs.YtmbfechiallppaaGreatDoor
theorem widthOf_eq (n : Int) (v : Int) (h : (if n < 0 ∨ 1114111 < n ∨ inTab n noneTab = true then (0 : Int) else if inTab n twoTab = true then 2 else 1) = v) (h' : (if isRune n = true then (refTab.take 34).foldl (fun w x => if x.1 ≤ n then x.2 else w) 0 else 0) = v) : widthOf n = refWidth n := by
  unfold widthOf refWidth refTo
  rw [h, h']
theorem width_i0 (n : Int) (h2 : n < 0) : widthOf n = refWidth n := by
  have e : isRune n = false := by unfold isRune; simp; omega
  exact widthOf_eq n 0 (by rw [if_pos (by omega)]) (by rw [e]; rfl)
theorem width_i1 (n : Int) (h1 : 0 ≤ n) (h2 : n < 32) : widthOf n = refWidth n := by
  have e0 : inTab n noneTab = true := by simp [inTab, noneTab]; omega
  have e2 : isRune n = true := by unfold isRune; simp; omega
  exact widthOf_eq n 0 (by rw [if_pos (by rw [e0]; simp)]) (by rw [if_pos e2]; simp (disch := omega) only [refTab, List.take, List.foldl, if_pos, if_neg])
theorem width_i2 (n : Int) (h1 : 32 ≤ n) (h2 : n < 127) : widthOf n = refWidth n := by
  have e0 : inTab n noneTab = false := by simp [inTab, noneTab]; omega
  have e1 : inTab n twoTab = false := by simp [inTab, twoTab]; omega
  have e2 : isRune n = true := by unfold isRune; simp; omega
  exact widthOf_eq n 1 (by rw [if_neg (by rw [e0]; simp; omega), if_neg (by rw [e1]; simp)]) (by rw [if_pos e2]; simp (disch := omega) only [refTab, List.take, List.foldl, if_pos, if_neg])
theorem width_i3 (n : Int) (h1 : 127 ≤ n) (h2 : n < 160) : widthOf n = refWidth n := by
  have e0 : inTab n noneTab = true := by simp [inTab, noneTab]; omega
  have e2 : isRune n = true := by unfold isRune; simp; omega
  exact widthOf_eq n 0 (by rw [if_pos (by rw [e0]; simp)]) (by rw [if_pos e2]; simp (disch := omega) only [refTab, List.take, List.foldl, if_pos, if_neg])
theorem width_i4 (n : Int) (h1 : 160 ≤ n) (h2 : n < 768) : widthOf n = refWidth n := by
  have e0 : inTab n noneTab = false := by simp [inTab, noneTab]; omega
  have e1 : inTab n twoTab = false := by simp [inTab, twoTab]; omega
  have e2 : isRune n = true := by unfold isRune; simp; omega
  exact widthOf_eq n 1 (by rw [if_neg (by rw [e0]; simp; omega), if_neg (by rw [e1]; simp)]) (by rw [if_pos e2]; simp (disch := omega) only [refTab, List.take, List.foldl, if_pos, if_neg])
theorem width_i5 (n : Int) (h1 : 768 ≤ n) (h2 : n < 880) : widthOf n = refWidth n := by
  have e0 : inTab n noneTab = true := by simp [inTab, noneTab]; omega
  have e2 : isRune n = true := by unfold isRune; simp; omega
  exact widthOf_eq n 0 (by rw [if_pos (by rw [e0]; simp)]) (by rw [if_pos e2]; simp (disch := omega) only [refTab, List.take, List.foldl, if_pos, if_neg])
theorem width_i6 (n : Int) (h1 : 880 ≤ n) (h2 : n < 4352) : widthOf n = refWidth n := by
  have e0 : inTab n noneTab = false := by simp [inTab, noneTab]; omega
  have e1 : inTab n twoTab = false := by simp [inTab, twoTab]; omega
  have e2 : isRune n = true := by unfold isRune; simp; omega
  exact widthOf_eq n 1 (by rw [if_neg (by rw [e0]; simp; omega), if_neg (by rw [e1]; simp)]) (by rw [if_pos e2]; simp (disch := omega) only [refTab, List.take, List.foldl, if_pos, if_neg])
theorem width_i7 (n : Int) (h1 : 4352 ≤ n) (h2 : n < 4448) : widthOf n = refWidth n := by
  have e0 : inTab n noneTab = false := by simp [inTab, noneTab]; omega
  have e1 : inTab n twoTab = true := by simp [inTab, twoTab]; omega
  have e2 : isRune n = true := by unfold isRune; simp; omega
  exact widthOf_eq n 2 (by rw [if_neg (by rw [e0]; simp; omega), if_pos e1]) (by rw [if_pos e2]; simp (disch := omega) only [refTab, List.take, List.foldl, if_pos, if_neg])
theorem width_i8 (n : Int) (h1 : 4448 ≤ n) (h2 : n < 8203) : widthOf n = refWidth n := by
  have e0 : inTab n noneTab = false := by simp [inTab, noneTab]; omega
  have e1 : inTab n twoTab = false := by simp [inTab, twoTab]; omega
  have e2 : isRune n = true := by unfold isRune; simp; omega
  exact widthOf_eq n 1 (by rw [if_neg (by rw [e0]; simp; omega), if_neg (by rw [e1]; simp)]) (by rw [if_pos e2]; simp (disch := omega) only [refTab, List.take, List.foldl, if_pos, if_neg])
theorem width_i9 (n : Int) (h1 : 8203 ≤ n) (h2 : n < 8208) : widthOf n = refWidth n := by
  have e0 : inTab n noneTab = true := by simp [inTab, noneTab]; omega
  have e2 : isRune n = true := by unfold isRune; simp; omega
  exact widthOf_eq n 0 (by rw [if_pos (by rw [e0]; simp)]) (by rw [if_pos e2]; simp (disch := omega) only [refTab, List.take, List.foldl, if_pos, if_neg])
theorem width_i10 (n : Int) (h1 : 8208 ≤ n) (h2 : n < 11904) : widthOf n = refWidth n := by
  have e0 : inTab n noneTab = false := by simp [inTab, noneTab]; omega
  have e1 : inTab n twoTab = false := by simp [inTab, twoTab]; omega
  have e2 : isRune n = true := by unfold isRune; simp; omega
  exact widthOf_eq n 1 (by rw [if_neg (by rw [e0]; simp; omega), if_neg (by rw [e1]; simp)]) (by rw [if_pos e2]; simp (disch := omega) only [refTab, List.take, List.foldl, if_pos, if_neg])
theorem width_i11 (n : Int) (h1 : 11904 ≤ n) (h2 : n < 12351) : widthOf n = refWidth n := by
  have e0 : inTab n noneTab = false := by simp [inTab, noneTab]; omega
  have e1 : inTab n twoTab = true := by simp [inTab, twoTab]; omega
  have e2 : isRune n = true := by unfold isRune; simp; omega
  exact widthOf_eq n 2 (by rw [if_neg (by rw [e0]; simp; omega), if_pos e1]) (by rw [if_pos e2]; simp (disch := omega) only [refTab, List.take, List.foldl, if_pos, if_neg])
theorem width_i12 (n : Int) (h1 : 12351 ≤ n) (h2 : n < 12353) : widthOf n = refWidth n := by
  have e0 : inTab n noneTab = false := by simp [inTab, noneTab]; omega
  have e1 : inTab n twoTab = false := by simp [inTab, twoTab]; omega
  have e2 : isRune n = true := by unfold isRune; simp; omega
  exact widthOf_eq n 1 (by rw [if_neg (by rw [e0]; simp; omega), if_neg (by rw [e1]; simp)]) (by rw [if_pos e2]; simp (disch := omega) only [refTab, List.take, List.foldl, if_pos, if_neg])
theorem width_i13 (n : Int) (h1 : 12353 ≤ n) (h2 : n < 19904) : widthOf n = refWidth n := by
  have e0 : inTab n noneTab = false := by simp [inTab, noneTab]; omega
  have e1 : inTab n twoTab = true := by simp [inTab, twoTab]; omega
  have e2 : isRune n = true := by unfold isRune; simp; omega
  exact widthOf_eq n 2 (by rw [if_neg (by rw [e0]; simp; omega), if_pos e1]) (by rw [if_pos e2]; simp (disch := omega) only [refTab, List.take, List.foldl, if_pos, if_neg])
theorem width_i14 (n : Int) (h1 : 19904 ≤ n) (h2 : n < 19968) : widthOf n = refWidth n := by
  have e0 : inTab n noneTab = false := by simp [inTab, noneTab]; omega
  have e1 : inTab n twoTab = false := by simp [inTab, twoTab]; omega
  have e2 : isRune n = true := by unfold isRune; simp; omega
  exact widthOf_eq n 1 (by rw [if_neg (by rw [e0]; simp; omega), if_neg (by rw [e1]; simp)]) (by rw [if_pos e2]; simp (disch := omega) only [refTab, List.take, List.foldl, if_pos, if_neg])
theorem width_i15 (n : Int) (h1 : 19968 ≤ n) (h2 : n < 42192) : widthOf n = refWidth n := by
  have e0 : inTab n noneTab = false := by simp [inTab, noneTab]; omega
  have e1 : inTab n twoTab = true := by simp [inTab, twoTab]; omega
  have e2 : isRune n = true := by unfold isRune; simp; omega
  exact widthOf_eq n 2 (by rw [if_neg (by rw [e0]; simp; omega), if_pos e1]) (by rw [if_pos e2]; simp (disch := omega) only [refTab, List.take, List.foldl, if_pos, if_neg])
theorem width_i16 (n : Int) (h1 : 42192 ≤ n) (h2 : n < 44032) : widthOf n = refWidth n := by
  have e0 : inTab n noneTab = false := by simp [inTab, noneTab]; omega
  have e1 : inTab n twoTab = false := by simp [inTab, twoTab]; omega
  have e2 : isRune n = true := by unfold isRune; simp; omega
  exact widthOf_eq n 1 (by rw [if_neg (by rw [e0]; simp; omega), if_neg (by rw [e1]; simp)]) (by rw [if_pos e2]; simp (disch := omega) only [refTab, List.take, List.foldl, if_pos, if_neg])
theorem width_i17 (n : Int) (h1 : 44032 ≤ n) (h2 : n < 55204) : widthOf n = refWidth n := by
  have e0 : inTab n noneTab = false := by simp [inTab, noneTab]; omega
  have e1 : inTab n twoTab = true := by simp [inTab, twoTab]; omega
  have e2 : isRune n = true := by unfold isRune; simp; omega
  exact widthOf_eq n 2 (by rw [if_neg (by rw [e0]; simp; omega), if_pos e1]) (by rw [if_pos e2]; simp (disch := omega) only [refTab, List.take, List.foldl, if_pos, if_neg])
theorem width_i18 (n : Int) (h1 : 55204 ≤ n) (h2 : n < 55296) : widthOf n = refWidth n := by
  have e0 : inTab n noneTab = false := by simp [inTab, noneTab]; omega
  have e1 : inTab n twoTab = false := by simp [inTab, twoTab]; omega
  have e2 : isRune n = true := by unfold isRune; simp; omega
  exact widthOf_eq n 1 (by rw [if_neg (by rw [e0]; simp; omega), if_neg (by rw [e1]; simp)]) (by rw [if_pos e2]; simp (disch := omega) only [refTab, List.take, List.foldl, if_pos, if_neg])
theorem width_i19 (n : Int) (h1 : 55296 ≤ n) (h2 : n < 57344) : widthOf n = refWidth n := by
  have e0 : inTab n noneTab = true := by simp [inTab, noneTab]; omega
  have e2 : isRune n = false := by unfold isRune; simp; omega
  exact widthOf_eq n 0 (by rw [if_pos (by rw [e0]; simp)]) (by rw [if_neg (by rw [e2]; simp)])
theorem width_i20 (n : Int) (h1 : 57344 ≤ n) (h2 : n < 63744) : widthOf n = refWidth n := by
  have e0 : inTab n noneTab = false := by simp [inTab, noneTab]; omega
  have e1 : inTab n twoTab = false := by simp [inTab, twoTab]; omega
  have e2 : isRune n = true := by unfold isRune; simp; omega
  exact widthOf_eq n 1 (by rw [if_neg (by rw [e0]; simp; omega), if_neg (by rw [e1]; simp)]) (by rw [if_pos e2]; simp (disch := omega) only [refTab, List.take, List.foldl, if_pos, if_neg])
theorem width_i21 (n : Int) (h1 : 63744 ≤ n) (h2 : n < 64256) : widthOf n = refWidth n := by
  have e0 : inTab n noneTab = false := by simp [inTab, noneTab]; omega
  have e1 : inTab n twoTab = true := by simp [inTab, twoTab]; omega
  have e2 : isRune n = true := by unfold isRune; simp; omega
  exact widthOf_eq n 2 (by rw [if_neg (by rw [e0]; simp; omega), if_pos e1]) (by rw [if_pos e2]; simp (disch := omega) only [refTab, List.take, List.foldl, if_pos, if_neg])
theorem width_i22 (n : Int) (h1 : 64256 ≤ n) (h2 : n < 65024) : widthOf n = refWidth n := by
  have e0 : inTab n noneTab = false := by simp [inTab, noneTab]; omega
  have e1 : inTab n twoTab = false := by simp [inTab, twoTab]; omega
  have e2 : isRune n = true := by unfold isRune; simp; omega
  exact widthOf_eq n 1 (by rw [if_neg (by rw [e0]; simp; omega), if_neg (by rw [e1]; simp)]) (by rw [if_pos e2]; simp (disch := omega) only [refTab, List.take, List.foldl, if_pos, if_neg])
theorem width_i23 (n : Int) (h1 : 65024 ≤ n) (h2 : n < 65040) : widthOf n = refWidth n := by
  have e0 : inTab n noneTab = true := by simp [inTab, noneTab]; omega
  have e2 : isRune n = true := by unfold isRune; simp; omega
  exact widthOf_eq n 0 (by rw [if_pos (by rw [e0]; simp)]) (by rw [if_pos e2]; simp (disch := omega) only [refTab, List.take, List.foldl, if_pos, if_neg])
theorem width_i24 (n : Int) (h1 : 65040 ≤ n) (h2 : n < 65072) : widthOf n = refWidth n := by
  have e0 : inTab n noneTab = false := by simp [inTab, noneTab]; omega
  have e1 : inTab n twoTab = false := by simp [inTab, twoTab]; omega
  have e2 : isRune n = true := by unfold isRune; simp; omega
  exact widthOf_eq n 1 (by rw [if_neg (by rw [e0]; simp; omega), if_neg (by rw [e1]; simp)]) (by rw [if_pos e2]; simp (disch := omega) only [refTab, List.take, List.foldl, if_pos, if_neg])
theorem width_i25 (n : Int) (h1 : 65072 ≤ n) (h2 : n < 65136) : widthOf n = refWidth n := by
  have e0 : inTab n noneTab = false := by simp [inTab, noneTab]; omega
  have e1 : inTab n twoTab = true := by simp [inTab, twoTab]; omega
  have e2 : isRune n = true := by unfold isRune; simp; omega
  exact widthOf_eq n 2 (by rw [if_neg (by rw [e0]; simp; omega), if_pos e1]) (by rw [if_pos e2]; simp (disch := omega) only [refTab, List.take, List.foldl, if_pos, if_neg])
theorem width_i26 (n : Int) (h1 : 65136 ≤ n) (h2 : n < 65280) : widthOf n = refWidth n := by
  have e0 : inTab n noneTab = false := by simp [inTab, noneTab]; omega
  have e1 : inTab n twoTab = false := by simp [inTab, twoTab]; omega
  have e2 : isRune n = true := by unfold isRune; simp; omega
  exact widthOf_eq n 1 (by rw [if_neg (by rw [e0]; simp; omega), if_neg (by rw [e1]; simp)]) (by rw [if_pos e2]; simp (disch := omega) only [refTab, List.take, List.foldl, if_pos, if_neg])
theorem width_i27 (n : Int) (h1 : 65280 ≤ n) (h2 : n < 65377) : widthOf n = refWidth n := by
  have e0 : inTab n noneTab = false := by simp [inTab, noneTab]; omega
  have e1 : inTab n twoTab = true := by simp [inTab, twoTab]; omega
  have e2 : isRune n = true := by unfold isRune; simp; omega
  exact widthOf_eq n 2 (by rw [if_neg (by rw [e0]; simp; omega), if_pos e1]) (by rw [if_pos e2]; simp (disch := omega) only [refTab, List.take, List.foldl, if_pos, if_neg])
theorem width_i28 (n : Int) (h1 : 65377 ≤ n) (h2 : n < 65504) : widthOf n = refWidth n := by
  have e0 : inTab n noneTab = false := by simp [inTab, noneTab]; omega
  have e1 : inTab n twoTab = false := by simp [inTab, twoTab]; omega
  have e2 : isRune n = true := by unfold isRune; simp; omega
  exact widthOf_eq n 1 (by rw [if_neg (by rw [e0]; simp; omega), if_neg (by rw [e1]; simp)]) (by rw [if_pos e2]; simp (disch := omega) only [refTab, List.take, List.foldl, if_pos, if_neg])
theorem width_i29 (n : Int) (h1 : 65504 ≤ n) (h2 : n < 65511) : widthOf n = refWidth n := by
  have e0 : inTab n noneTab = false := by simp [inTab, noneTab]; omega
  have e1 : inTab n twoTab = true := by simp [inTab, twoTab]; omega
  have e2 : isRune n = true := by unfold isRune; simp; omega
  exact widthOf_eq n 2 (by rw [if_neg (by rw [e0]; simp; omega), if_pos e1]) (by rw [if_pos e2]; simp (disch := omega) only [refTab, List.take, List.foldl, if_pos, if_neg])
theorem width_i30 (n : Int) (h1 : 65511 ≤ n) (h2 : n < 127744) : widthOf n = refWidth n := by
  have e0 : inTab n noneTab = false := by simp [inTab, noneTab]; omega
  have e1 : inTab n twoTab = false := by simp [inTab, twoTab]; omega
  have e2 : isRune n = true := by unfold isRune; simp; omega
  exact widthOf_eq n 1 (by rw [if_neg (by rw [e0]; simp; omega), if_neg (by rw [e1]; simp)]) (by rw [if_pos e2]; simp (disch := omega) only [refTab, List.take, List.foldl, if_pos, if_neg])
theorem width_i31 (n : Int) (h1 : 127744 ≤ n) (h2 : n < 128592) : widthOf n = refWidth n := by
  have e0 : inTab n noneTab = false := by simp [inTab, noneTab]; omega
  have e1 : inTab n twoTab = true := by simp [inTab, twoTab]; omega
  have e2 : isRune n = true := by unfold isRune; simp; omega
  exact widthOf_eq n 2 (by rw [if_neg (by rw [e0]; simp; omega), if_pos e1]) (by rw [if_pos e2]; simp (disch := omega) only [refTab, List.take, List.foldl, if_pos, if_neg])
theorem width_i32 (n : Int) (h1 : 128592 ≤ n) (h2 : n < 129280) : widthOf n = refWidth n := by
  have e0 : inTab n noneTab = false := by simp [inTab, noneTab]; omega
  have e1 : inTab n twoTab = false := by simp [inTab, twoTab]; omega
  have e2 : isRune n = true := by unfold isRune; simp; omega
  exact widthOf_eq n 1 (by rw [if_neg (by rw [e0]; simp; omega), if_neg (by rw [e1]; simp)]) (by rw [if_pos e2]; simp (disch := omega) only [refTab, List.take, List.foldl, if_pos, if_neg])
theorem width_i33 (n : Int) (h1 : 129280 ≤ n) (h2 : n < 129536) : widthOf n = refWidth n := by
  have e0 : inTab n noneTab = false := by simp [inTab, noneTab]; omega
  have e1 : inTab n twoTab = true := by simp [inTab, twoTab]; omega
  have e2 : isRune n = true := by unfold isRune; simp; omega
  exact widthOf_eq n 2 (by rw [if_neg (by rw [e0]; simp; omega), if_pos e1]) (by rw [if_pos e2]; simp (disch := omega) only [refTab, List.take, List.foldl, if_pos, if_neg])
theorem width_i34 (n : Int) (h1 : 129536 ≤ n) (h2 : n < 131072) : widthOf n = refWidth n := by
  have e0 : inTab n noneTab = false := by simp [inTab, noneTab]; omega
  have e1 : inTab n twoTab = false := by simp [inTab, twoTab]; omega
  have e2 : isRune n = true := by unfold isRune; simp; omega
  exact widthOf_eq n 1 (by rw [if_neg (by rw [e0]; simp; omega), if_neg (by rw [e1]; simp)]) (by rw [if_pos e2]; simp (disch := omega) only [refTab, List.take, List.foldl, if_pos, if_neg])
theorem width_i35 (n : Int) (h1 : 131072 ≤ n) (h2 : n < 262142) : widthOf n = refWidth n := by
  have e0 : inTab n noneTab = false := by simp [inTab, noneTab]; omega
  have e1 : inTab n twoTab = true := by simp [inTab, twoTab]; omega
  have e2 : isRune n = true := by unfold isRune; simp; omega
  exact widthOf_eq n 2 (by rw [if_neg (by rw [e0]; simp; omega), if_pos e1]) (by rw [if_pos e2]; simp (disch := omega) only [refTab, List.take, List.foldl, if_pos, if_neg])
theorem width_i36 (n : Int) (h1 : 262142 ≤ n) (h2 : n < 1114112) : widthOf n = refWidth n := by
  have e0 : inTab n noneTab = false := by simp [inTab, noneTab]; omega
  have e1 : inTab n twoTab = false := by simp [inTab, twoTab]; omega
  have e2 : isRune n = true := by unfold isRune; simp; omega
  exact widthOf_eq n 1 (by rw [if_neg (by rw [e0]; simp; omega), if_neg (by rw [e1]; simp)]) (by rw [if_pos e2]; simp (disch := omega) only [refTab, List.take, List.foldl, if_pos])
theorem width_i37 (n : Int) (h1 : 1114112 ≤ n) : widthOf n = refWidth n := by
  have e : isRune n = false := by unfold isRune; simp; omega
  exact widthOf_eq n 0 (by rw [if_pos (by omega)]) (by rw [e]; rfl)
theorem width_same (n : Int) : widthOf n = refWidth n := by
  rcases Int.lt_or_le n 0 with c0 | c0
  · exact width_i0 n c0
  rcases Int.lt_or_le n 32 with c1 | c1
  · exact width_i1 n c0 c1
  rcases Int.lt_or_le n 127 with c2 | c2
  · exact width_i2 n c1 c2
  rcases Int.lt_or_le n 160 with c3 | c3
  · exact width_i3 n c2 c3
  rcases Int.lt_or_le n 768 with c4 | c4
  · exact width_i4 n c3 c4
  rcases Int.lt_or_le n 880 with c5 | c5
  · exact width_i5 n c4 c5
  rcases Int.lt_or_le n 4352 with c6 | c6
  · exact width_i6 n c5 c6
  rcases Int.lt_or_le n 4448 with c7 | c7
  · exact width_i7 n c6 c7
  rcases Int.lt_or_le n 8203 with c8 | c8
  · exact width_i8 n c7 c8
  rcases Int.lt_or_le n 8208 with c9 | c9
  · exact width_i9 n c8 c9
  rcases Int.lt_or_le n 11904 with c10 | c10
  · exact width_i10 n c9 c10
  rcases Int.lt_or_le n 12351 with c11 | c11
  · exact width_i11 n c10 c11
  rcases Int.lt_or_le n 12353 with c12 | c12
  · exact width_i12 n c11 c12
  rcases Int.lt_or_le n 19904 with c13 | c13
  · exact width_i13 n c12 c13
  rcases Int.lt_or_le n 19968 with c14 | c14
  · exact width_i14 n c13 c14
  rcases Int.lt_or_le n 42192 with c15 | c15
  · exact width_i15 n c14 c15
  rcases Int.lt_or_le n 44032 with c16 | c16
  · exact width_i16 n c15 c16
  rcases Int.lt_or_le n 55204 with c17 | c17
  · exact width_i17 n c16 c17
  rcases Int.lt_or_le n 55296 with c18 | c18
  · exact width_i18 n c17 c18
  rcases Int.lt_or_le n 57344 with c19 | c19
  · exact width_i19 n c18 c19
  rcases Int.lt_or_le n 63744 with c20 | c20
  · exact width_i20 n c19 c20
  rcases Int.lt_or_le n 64256 with c21 | c21
  · exact width_i21 n c20 c21
  rcases Int.lt_or_le n 65024 with c22 | c22
  · exact width_i22 n c21 c22
  rcases Int.lt_or_le n 65040 with c23 | c23
  · exact width_i23 n c22 c23
  rcases Int.lt_or_le n 65072 with c24 | c24
  · exact width_i24 n c23 c24
  rcases Int.lt_or_le n 65136 with c25 | c25
  · exact width_i25 n c24 c25
  rcases Int.lt_or_le n 65280 with c26 | c26
  · exact width_i26 n c25 c26
  rcases Int.lt_or_le n 65377 with c27 | c27
  · exact width_i27 n c26 c27
  rcases Int.lt_or_le n 65504 with c28 | c28
  · exact width_i28 n c27 c28
  rcases Int.lt_or_le n 65511 with c29 | c29
  · exact width_i29 n c28 c29
  rcases Int.lt_or_le n 127744 with c30 | c30
  · exact width_i30 n c29 c30
  rcases Int.lt_or_le n 128592 with c31 | c31
  · exact width_i31 n c30 c31
  rcases Int.lt_or_le n 129280 with c32 | c32
  · exact width_i32 n c31 c32
  rcases Int.lt_or_le n 129536 with c33 | c33
  · exact width_i33 n c32 c33
  rcases Int.lt_or_le n 131072 with c34 | c34
  · exact width_i34 n c33 c34
  rcases Int.lt_or_le n 262142 with c35 | c35
  · exact width_i35 n c34 c35
  rcases Int.lt_or_le n 1114112 with c36 | c36
  · exact width_i36 n c35 c36
  exact width_i37 n c36
end Go.Proofs.YtmbfechiallppaaGreatDoor
end
section
namespace Go.Fw
/-- The first k letters of the first n are their last k. -/
def Bd (p : Nat → Int) (n k : Nat) : Prop := k ≤ n ∧ ∀ j, j < k → p j = p (n - k + j)
theorem Bd.zero (p : Nat → Int) (n : Nat) : Bd p n 0 := ⟨Nat.zero_le _, fun j hj => absurd hj (Nat.not_lt_zero _)⟩
theorem Bd.trans {p : Nat → Int} {n k j : Nat} (h : Bd p n k) (h' : Bd p k j) : Bd p n j := by
  obtain ⟨h1, h2⟩ := h
  obtain ⟨h3, h4⟩ := h'
  refine ⟨by omega, fun t ht => ?_⟩
  rw [h4 t ht, h2 (k - j + t) (by omega)]
  congr 1
  omega
theorem Bd.inner {p : Nat → Int} {n k j : Nat} (h : Bd p n k) (h' : Bd p n j) (hj : j ≤ k) : Bd p k j := by
  obtain ⟨h1, h2⟩ := h
  obtain ⟨h3, h4⟩ := h'
  refine ⟨hj, fun t ht => ?_⟩
  rw [h4 t ht, h2 (k - j + t) (by omega)]
  congr 1
  omega
theorem Bd.succ {p : Nat → Int} {n k : Nat} : Bd p (n + 1) (k + 1) ↔ Bd p n k ∧ p k = p n := by
  constructor
  · rintro ⟨h1, h2⟩
    refine ⟨⟨by omega, fun j hj => ?_⟩, ?_⟩
    · rw [h2 j (by omega)]; congr 1; omega
    · rw [h2 k (by omega)]; congr 1; omega
  · rintro ⟨⟨h1, h2⟩, h3⟩
    refine ⟨by omega, fun j hj => ?_⟩
    rcases Nat.lt_or_ge j k with h | h
    · rw [h2 j h]; congr 1; omega
    · obtain rfl : j = k := by omega
      rw [h3]; congr 1; omega
/-- The longest border that is shorter than the word. -/
def IsB (p : Nat → Int) (n k : Nat) : Prop := k < n ∧ Bd p n k ∧ ∀ j, j < n → Bd p n j → j ≤ k
theorem IsB.one (p : Nat → Int) : IsB p 1 0 := ⟨Nat.zero_lt_one, Bd.zero p 1, fun j hj _ => by omega⟩
/-- What holds on the way from n letters to n + 1. -/
def OnWay (p : Nat → Int) (n k : Nat) : Prop := k < n ∧ Bd p n k ∧ ∀ j, j < n → Bd p n j → p j = p n → j ≤ k
theorem OnWay.step {p : Nat → Int} {n k k' : Nat} (h : OnWay p n k) (hne : ¬ p n = p k) (hk : IsB p k k') : OnWay p n k' := by
  obtain ⟨h1, h2, h3⟩ := h
  obtain ⟨g1, g2, g3⟩ := hk
  refine ⟨by omega, h2.trans g2, fun j hj hb hp => ?_⟩
  have hle := h3 j hj hb hp
  have hlt : j < k := by
    rcases Nat.lt_or_ge j k with h | h
    · exact h
    · obtain rfl : j = k := by omega
      exact absurd hp.symm hne
  exact g3 j hlt (h2.inner hb hle)
theorem OnWay.no {p : Nat → Int} {n : Nat} (h : OnWay p n 0) (hne : ¬ p n = p 0) : IsB p (n + 1) 0 := by
  obtain ⟨h1, h2, h3⟩ := h
  refine ⟨by omega, Bd.zero _ _, fun j hj hb => ?_⟩
  cases j with
  | zero => omega
  | succ j =>
    obtain ⟨g1, g2⟩ := Bd.succ.1 hb
    have h0 := h3 j (by omega) g1 g2
    obtain rfl : j = 0 := by omega
    exact absurd g2.symm hne
end Go.Fw
namespace Go.Fw
/-- The first k letters of the word are the last k of the first i of the text. -/
def Mt (p t : Nat → Int) (i k : Nat) : Prop := k ≤ i ∧ ∀ j, j < k → p j = t (i - k + j)
theorem Mt.zero (p t : Nat → Int) (i : Nat) : Mt p t i 0 := ⟨Nat.zero_le _, fun j hj => absurd hj (Nat.not_lt_zero _)⟩
theorem Mt.trans {p t : Nat → Int} {i k j : Nat} (h : Mt p t i k) (h' : Bd p k j) : Mt p t i j := by
  obtain ⟨h1, h2⟩ := h
  obtain ⟨h3, h4⟩ := h'
  refine ⟨by omega, fun u hu => ?_⟩
  rw [h4 u hu, h2 (k - j + u) (by omega)]
  congr 1
  omega
theorem Mt.inner {p t : Nat → Int} {i k j : Nat} (h : Mt p t i k) (h' : Mt p t i j) (hj : j ≤ k) : Bd p k j := by
  obtain ⟨h1, h2⟩ := h
  obtain ⟨h3, h4⟩ := h'
  refine ⟨hj, fun u hu => ?_⟩
  rw [h4 u hu, h2 (k - j + u) (by omega)]
  congr 1
  omega
theorem Mt.succ {p t : Nat → Int} {i k : Nat} : Mt p t (i + 1) (k + 1) ↔ Mt p t i k ∧ p k = t i := by
  constructor
  · rintro ⟨h1, h2⟩
    refine ⟨⟨by omega, fun j hj => ?_⟩, ?_⟩
    · rw [h2 j (by omega)]; congr 1; omega
    · rw [h2 k (by omega)]; congr 1; omega
  · rintro ⟨⟨h1, h2⟩, h3⟩
    refine ⟨by omega, fun j hj => ?_⟩
    rcases Nat.lt_or_ge j k with h | h
    · rw [h2 j h]; congr 1; omega
    · obtain rfl : j = k := by omega
      rw [h3]; congr 1; omega
def IsM (p t : Nat → Int) (n i k : Nat) : Prop := k ≤ n ∧ Mt p t i k ∧ ∀ j, j ≤ n → Mt p t i j → j ≤ k
theorem IsM.none (p t : Nat → Int) (n : Nat) : IsM p t n 0 0 := ⟨Nat.zero_le _, Mt.zero _ _ _, fun j _ h => by have := h.1; omega⟩
def OnM (p t : Nat → Int) (n i k : Nat) : Prop := k ≤ n ∧ Mt p t i k ∧ ∀ j, j < n → Mt p t i j → p j = t i → j ≤ k
theorem OnM.step {p t : Nat → Int} {n i k k' : Nat} (h : OnM p t n i k) (hne : k = n ∨ ¬ t i = p k) (hk : IsB p k k') : OnM p t n i k' := by
  obtain ⟨h1, h2, h3⟩ := h
  obtain ⟨g1, g2, g3⟩ := hk
  refine ⟨by omega, h2.trans g2, fun j hj hm hp => ?_⟩
  have hle := h3 j hj hm hp
  have hlt : j < k := by
    rcases Nat.lt_or_ge j k with h | h
    · exact h
    · obtain rfl : j = k := by omega
      rcases hne with hne | hne
      · omega
      · exact absurd hp.symm hne
  exact g3 j hlt (h2.inner hm hle)
theorem OnM.no {p t : Nat → Int} {n i : Nat} (h : OnM p t n i 0) (hne : ¬ t i = p 0) : IsM p t n (i + 1) 0 := by
  obtain ⟨h1, h2, h3⟩ := h
  refine ⟨Nat.zero_le _, Mt.zero _ _ _, fun j hj hm => ?_⟩
  cases j with
  | zero => omega
  | succ j =>
    obtain ⟨g1, g2⟩ := Mt.succ.1 hm
    have h0 := h3 j (by omega) g1 g2
    obtain rfl : j = 0 := by omega
    exact absurd g2.symm hne
end Go.Fw
end
section
namespace Go.Proofs.YtmbfechiallppaaGreatDoor
open Go.RowKit Go.Fw
def idxStrsNo (xs : List ByteArray) (y : ByteArray) (k : Nat) : Prop := ∀ j, j < k → ¬ y = xs.getD j ByteArray.empty
def idxStrsIn (xs : List ByteArray) (y : ByteArray) : Bool := xs.any (fun x => decide (x = y))
def idxStrsAt (xs : List ByteArray) (y : ByteArray) : Int := if idxStrsIn xs y then (xs.findIdx (fun x => decide (x = y)) : Nat) else -1
theorem idxStrsIn_iff (xs : List ByteArray) (y : ByteArray) : idxStrsIn xs y = true ↔ y ∈ xs := by
  unfold idxStrsIn
  rw [List.any_eq_true]
  constructor
  · rintro ⟨x, hx, e⟩
    rw [← of_decide_eq_true e]; exact hx
  · intro h
    exact ⟨y, h, by simp⟩
theorem idxStrsAt_yes (xs : List ByteArray) (y : ByteArray) (k : Nat) (h : idxStrsNo xs y k) (he : y = xs.getD k ByteArray.empty) (hk : k < xs.length) : idxStrsAt xs y = k := by
  have e : xs.getD k ByteArray.empty = xs[k] := by simp [List.getD, List.getElem?_eq_getElem hk]
  unfold idxStrsAt
  rw [if_pos ((idxStrsIn_iff xs y).2 (by rw [he, e]; exact List.getElem_mem hk))]
  congr 1
  rw [List.findIdx_eq hk]
  refine ⟨by rw [he, e]; simp, fun j hj => ?_⟩
  have := h j hj
  simp only [List.getD, List.getElem?_eq_getElem (show j < xs.length by omega), Option.getD_some] at this
  simpa using fun h' => this h'.symm
theorem idxStrsAt_no (xs : List ByteArray) (y : ByteArray) (h : idxStrsNo xs y xs.length) : idxStrsAt xs y = -1 := by
  unfold idxStrsAt
  rw [if_neg]
  intro hm
  obtain ⟨j, hj, e⟩ := List.getElem_of_mem ((idxStrsIn_iff xs y).1 hm)
  refine h j hj ?_
  simp [List.getD, List.getElem?_eq_getElem hj, e]
set_option maxRecDepth 100000 in
set_option maxHeartbeats 400000 in
theorem idxStrs_any (xs : List ByteArray) (y : ByteArray) (a1 : Option Addr) (n1 c1 : Nat) (w : World) (hn1 : n1 = xs.length) (hm1 : xs.length ≤ maxLen) (h1 : At w a1 (strs xs)) :
    Calls Tryz.prog 143 #[.slice a1 n1 c1, .string y] w fun e w' => e = .returned (.int .i64 (idxStrsAt xs y)) ∧ Below w.heap.size w w' := by
  have Hn1 := Lib.hid hn1
  rw [← hn1] at hm1
  unfold maxLen at hm1
  clear hn1
  go_enter Tryz.func143, Tryz.ntmps143
  go_wp2
  go_loop [8] (fun i => ∃ k : Nat, k ≤ n1 ∧ i = .int .i64 k ∧ idxStrsNo xs y k) (fun i => n1 - (intOf i).toNat)
  case atStart => exact ⟨0, Nat.zero_le _, rfl, fun j hj => by omega⟩
  case round =>
    obtain ⟨k, hk, rfl, hno⟩ := hrel
    by_cases hlt : k < n1
    · obtain ⟨b, o, ha, hb, hc⟩ := h1.str (i := k) (by rw [← Hn1.out]; exact hlt)
      rw [ha]
      have hx := hc k (by rw [← Hn1.out]; exact hlt)
      clear hc ha
      obtain ⟨x, hX⟩ : ∃ x, x = xs.getD k ByteArray.empty := ⟨_, rfl⟩
      rw [← hX] at hx
      have HX := Lib.hid hX
      clear hX
      by_cases he : y = x
      · have Hfin := Lib.hid (idxStrsAt_yes xs y k hno (he.trans HX.out) (by rw [← Hn1.out]; exact hlt))
        subst he
        have hb0 : (y.toList == y.toList) = true := beq_self_eq_true _
        go_wp2
        go_ret
        exact ⟨ret_int Hfin.out.symm, Below.refl _ _⟩
      · have hno' : idxStrsNo xs y (k + 1) := fun j hj => by
          rcases Nat.lt_or_ge j k with h | h
          · exact hno j h
          · obtain rfl : j = k := by omega
            rw [← HX.out]; exact he
        have hb1 : (y.toList == x.toList) = false := toList_ne he
        go_wp2
        go_round
        case rel => exact ⟨k + 1, by omega, by go_num, hno'⟩
        case measure => simp [intOf]; omega
    · obtain rfl : k = n1 := by omega
      have Hfin := Lib.hid (idxStrsAt_no xs y (by rw [← Hn1.out]; exact hno))
      go_wp2
      go_ret
      exact ⟨ret_int Hfin.out.symm, Below.refl _ _⟩
set_option maxRecDepth 100000 in
theorem hasStr_any (xs : List ByteArray) (y : ByteArray) (a1 : Option Addr) (n1 c1 : Nat) (w : World) (hn1 : n1 = xs.length) (hm1 : xs.length ≤ maxLen) (h1 : At w a1 (strs xs)) :
    Calls Tryz.prog 89 #[.slice a1 n1 c1, .string y] w fun e w' => e = .returned (.bool (idxStrsIn xs y)) ∧ Below w.heap.size w w' := by
  have hge : decide (0 ≤ idxStrsAt xs y) = idxStrsIn xs y := by
    unfold idxStrsAt
    cases h : idxStrsIn xs y <;> simp
  have Hge := Lib.hid hge
  have Hn := Lib.hid hn1
  clear hge hn1
  go_enter Tryz.func89, Tryz.ntmps89
  go_wp2_with fail
  refine (idxStrs_any xs y a1 n1 c1 _ Hn.out hm1 h1).mono ?_
  rintro e w' ⟨rfl, hb⟩
  go_wp2
  go_ret
  exact ⟨ret_bool Hge.out, hb⟩
end Go.Proofs.YtmbfechiallppaaGreatDoor
end
section
namespace Go.Proofs.YtmbfechiallppaaGreatDoor
open Go Go.RowKit Go.Fw Go.Sx
set_option maxRecDepth 100000
set_option maxHeartbeats 1000000
attribute [local irreducible] SW SL SQ AtQ SV SC BB LD PK Yields SO SOT SOA SY
theorem refWidths_mono (l : List Int) (i j : Nat) (h : i ≤ j) (hj : j ≤ l.length) : refWidths (l.take i) ≤ refWidths (l.take j) := by
  induction j with
  | zero => obtain rfl : i = 0 := by omega
            exact Int.le_refl _
  | succ j ih =>
    rcases Nat.eq_or_lt_of_le h with rfl | hlt
    · exact Int.le_refl _
    · have h1 := ih (by omega) (by omega)
      rw [refWidths_succ l j (by omega)]
      have := refWidth_bd (l.getD j 0)
      omega
/-- How many at most are no wider than w. -/
def IsCut (l : List Int) (w : Int) (k : Nat) : Prop := k ≤ l.length ∧ refWidths (l.take k) ≤ w ∧ ∀ j, k < j → j ≤ l.length → w < refWidths (l.take j)
theorem IsCut.at {l : List Int} {w : Int} {k i : Nat} (h : IsCut l w k) (hi : i < l.length) (h1 : refWidths (l.take i) ≤ w) (h2 : w < refWidths (l.take i) + refWidth (l.getD i 0)) : i = k := by
  obtain ⟨g1, g2, g3⟩ := h
  rw [← refWidths_succ l i hi] at h2
  rcases Nat.lt_trichotomy i k with hlt | rfl | hlt
  · have := refWidths_mono l (i + 1) k hlt g1
    omega
  · rfl
  · have := g3 i hlt (by omega)
    omega
theorem IsCut.last {l : List Int} {w : Int} {k : Nat} (h : IsCut l w k) (h1 : refWidths (l.take l.length) ≤ w) : l.length = k := by
  obtain ⟨g1, g2, g3⟩ := h
  rcases Nat.eq_or_lt_of_le g1 with h | hlt
  · exact h.symm
  · have := g3 l.length hlt (Nat.le_refl _)
    omega
theorem widthOf_sv (G : Ctx) (H : List Ent) (x : Int) : SV Tryz.prog G 126 [.int .i64 x] H (.int .i64 (refWidth x)) :=
  sv_of_calls (callee_of Tryz.func126 rfl rfl) fun w _ => by rw [← width_same]; exact widthOf_any x w
end Go.Proofs.YtmbfechiallppaaGreatDoor
end
section
namespace Go.Proofs.YtmbfechiallppaaGreatDoor
open Go Go.RowKit Go.Fw Go.Sx
set_option maxRecDepth 100000
attribute [local irreducible] SW SL SQ AtQ SV SC BB LD PK Yields
def colorB (x : Int) : Bool := decide ((0 ≤ x ∧ x ≤ 256) ∨ (16777216 ≤ x ∧ x < 33554432))
def penB (fl fo ba : Int) : Bool := decide (0 ≤ fl ∧ fl ≤ 255) && (colorB fo && colorB ba)
abbrev penV (fl fo ba : Int) : Value := .agg [.int .i64 fl, .int .i64 fo, .int .i64 ba].toArray
theorem color_sv (G : Ctx) (H : List Ent) (x : Int) : SV Tryz.prog G 128 [.int .i64 x] H (.bool (colorB x)) := by
  refine sv_enter1 Tryz.func128 rfl rfl rfl rfl rfl ?_
  repeat' ((first | (apply g_sl; (first | (apply ks_nil; refine sl_nil ?_) | (apply ks_move; refine s_move rfl rfl ?_) | (apply ks_bin; refine s_bin rfl rfl rfl ?_; (((refine bb_of rfl ?_)))) | (apply ks_asgn; refine s_asgn rfl rfl ?_) | (apply ks_pick; refine s_pick rfl rfl ?_; (first | (apply kp_t; refine pk_t rfl ?_) | (apply kp_f; refine pk_f rfl ?_))) | (apply ks_guard; (first | (refine sl_gd rfl rfl rfl rfl ?_; (first | (apply gd_t) | (apply gd_ft) | (apply gd_tf) | (apply gd_dec_t <;> intro hq <;> (try (exfalso; omega))) | (apply gd_dec_f <;> intro hq <;> (try (exfalso; omega))))) | refine sl_skip_u rfl rfl rfl rfl rfl rfl ?_)))) | (apply sw_seq) | (apply sw_ret) | (apply sw_region) | (apply at_thn)))
  all_goals (refine e_sv (by (exact .inr rfl)) rfl (by repeat ((exact List.Sublist.refl _))) ?_; (first | exact rb_t (by omega) | exact rb_f (by omega) | exact rb_d (by omega)))
attribute [irreducible] colorB
theorem penCheck_sv (G : Ctx) (H : List Ent) (fl fo ba : Int) : SV Tryz.prog G 76 [penV fl fo ba] H (.int .i64 (if penB fl fo ba = true then 0 else 4)) := by
  refine sv_enter1 Tryz.func76 rfl rfl rfl rfl rfl ?_
  repeat' ((first | (apply g_sl; (first | (apply ks_nil; refine sl_nil ?_) | (apply ks_move; refine s_move rfl rfl ?_) | (apply ks_bin; refine s_bin rfl rfl rfl ?_; (((refine bb_of rfl ?_)))) | (apply ks_load; ((refine s_load rfl rfl ?_; (refine ld_cell rfl ?_)))) | (apply ks_asgn; refine s_asgn rfl rfl ?_) | (apply ks_pick; refine s_pick rfl rfl ?_; (first | (apply kp_t; refine pk_t rfl ?_) | (apply kp_f; refine pk_f rfl ?_))) | (apply ks_field; (refine s_field (c_field0 rfl rfl) rfl ?_)) | (apply ks_un; refine s_un (y_un rfl rfl rfl) rfl ?_) | (apply ks_fn; (refine c_callv rfl rfl rfl (color_sv _ _ _) rfl rfl ?_)) | (apply ks_box; refine c_box rfl rfl rfl rfl rfl rfl (fun _ => ?_)) | (apply ks_guard; ((refine sl_gd rfl rfl rfl rfl ?_; (first | (apply gd_t) | (apply gd_tf) | (apply gd_dec_f <;> intro hq <;> (try (exfalso; omega))) | (apply gd_not_f <;> intro hq))))))) | (apply sw_seq) | (apply sw_skip) | (apply sw_ret) | (apply sw_region) | (refine sw_cd rfl ?_; (first | (apply gd_t) | (apply gd_not_t <;> intro hq))) | (apply at_thn) | (apply at_thn_ret)))
  all_goals (refine e_sv (by (exact .inr rfl)) rfl (by repeat ((first | exact List.Sublist.refl _ | refine List.Sublist.cons _ ?_))) ?_; (first | exact ri_t (by simp [penB, *]; omega) rfl | exact ri_f (by simp [penB, *]; try omega) rfl))
end Go.Proofs.YtmbfechiallppaaGreatDoor
end
section
namespace Go.Fw
open Go Go.RowKit Go.Sx
/-- A cell: its rune, and its pen's flags, foreground and background. -/
abbrev Qd := Int × Int × Int × Int
def qd (q : Qd) : List Value := [.int .i64 q.1, .int .i64 q.2.1, .int .i64 q.2.2.1, .int .i64 q.2.2.2]
def qds (C : List Qd) : List Value := C.flatMap qd
abbrev qz : Qd := (0, 0, 0, 0)
theorem qd_len (q : Qd) : (qd q).length = 4 := rfl
theorem qds_cons (q : Qd) (C : List Qd) : qds (q :: C) = qd q ++ qds C := by simp [qds]
theorem qds_app (C D : List Qd) : qds (C ++ D) = qds C ++ qds D := by simp [qds]
theorem qds_len : ∀ C : List Qd, (qds C).length = C.length * 4
  | [] => rfl
  | q :: C => by rw [qds_cons, List.length_append, qds_len C, qd_len, List.length_cons]; omega
theorem qds_drop : ∀ (k : Nat) (C : List Qd), (qds C).drop (k * 4) = qds (C.drop k)
  | 0, C => by simp
  | k + 1, [] => by simp [qds]
  | k + 1, q :: C => by
    rw [qds_cons, show (k + 1) * 4 = (qd q).length + k * 4 from by rw [qd_len]; omega, List.drop_length_add_append, qds_drop k C]
    rfl
theorem qds_take : ∀ (k : Nat) (C : List Qd), (qds C).take (k * 4) = qds (C.take k)
  | 0, C => by simp [qds]
  | k + 1, [] => by simp [qds]
  | k + 1, q :: C => by
    rw [qds_cons, show (k + 1) * 4 = (qd q).length + k * 4 from by rw [qd_len]; omega, List.take_length_add_append, qds_take k C, List.take_succ_cons, qds_cons]
theorem qds_piece (C : List Qd) (q m : Nat) (l h : Int) (hl : l = q) (hh : h = q + m) : ((qds C).drop (l.toNat * 4)).take ((h.toNat - l.toNat) * 4) = qds ((C.drop q).take m) := by
  rw [show l.toNat = q from by omega, show h.toNat - q = m from by omega, qds_drop, qds_take]
theorem getD_cons_drop {C : List Qd} {k : Nat} (hk : k < C.length) : C.drop k = C.getD k qz :: C.drop (k + 1) := by
  rw [List.drop_eq_getElem_cons hk, List.getD_eq_getElem?_getD, List.getElem?_eq_getElem hk]
  rfl
theorem qds_cell {C : List Qd} {k : Nat} (j : Nat) (hk : k < C.length) (hj : j < 4) : (qds C)[k * 4 + j]? = (qd (C.getD k qz))[j]? := by
  rw [← List.getElem?_drop, qds_drop, getD_cons_drop hk, qds_cons, List.getElem?_append_left (by rw [qd_len]; exact hj)]
theorem qds_elem {C : List Qd} {k : Nat} (hk : k < C.length) : take? ((qds C).drop (k * 4)) 4 = some (qd (C.getD k qz)) := by
  rw [qds_drop, getD_cons_drop hk, qds_cons]
  simp [take?, qd]
theorem qds_pen {C : List Qd} {k : Nat} (hk : k < C.length) : take? ((qds C).drop (k * 4 + 1)) 3 = some [.int .i64 (C.getD k qz).2.1, .int .i64 (C.getD k qz).2.2.1, .int .i64 (C.getD k qz).2.2.2] := by
  rw [← List.drop_drop, qds_drop, getD_cons_drop hk, qds_cons]
  simp [take?, qd]
theorem qds_over {C : List Qd} {k : Nat} (q : Qd) (hk : k < C.length) : over (qds C) (k * 4) (qd q) = qds (C.set k q) := by
  unfold over
  rw [qds_take, qd_len, show k * 4 + 4 = (k + 1) * 4 from by omega, qds_drop, List.set_eq_take_append_cons_drop, if_pos hk, qds_app, qds_cons, List.append_assoc]
theorem qds_one (C : List Qd) : (qds C).all (·.oneCell') = true := by
  unfold qds
  rw [List.all_flatMap]
  exact List.all_eq_true.2 fun _ _ => rfl
/-- The other half of the sign ahead. -/
def tailP (C : List Qd) (k : Nat) : Prop := k < C.length ∧ (C.getD k qz).1 = 0 ∧ (C.getD k qz).2 = (C.getD (k - 1) qz).2
instance (C : List Qd) (k : Nat) : Decidable (tailP C k) := by unfold tailP; infer_instance
/-- Half of nothing. -/
def loneB (wd : Int → Int) (C : List Qd) (i : Nat) : Bool :=
  if (C.getD i qz).1 = 0 then decide (i = 0 ∨ wd (C.getD (i - 1) qz).1 ≠ 2 ∨ ¬ tailP C i) else decide (wd (C.getD i qz).1 = 2 ∧ ¬ tailP C (i + 1))
end Go.Fw
namespace Go.Proofs.YtmbfechiallppaaGreatDoor
open Go Go.RowKit Go.Fw Go.Sx
set_option maxRecDepth 100000
set_option maxHeartbeats 1000000
attribute [local irreducible] SW SL SQ AtQ SV SC BB LD PK Yields SO SOT SOA SY
def sizeE (w h : Int) : Int := if 1 ≤ w ∧ w ≤ 160 ∧ 1 ≤ h ∧ h ≤ 60 then 0 else 1
theorem gridSize_sv (G : Ctx) (H : List Ent) (w h : Int) : SV Tryz.prog G 125 [.int .i64 w, .int .i64 h] H (.int .i64 (sizeE w h)) := by
  unfold sizeE
  refine sv_enter2 Tryz.func125 rfl rfl rfl rfl rfl ?_
  repeat' ((first | (apply g_sl; (first | (apply ks_nil; refine sl_nil ?_) | (apply ks_move; refine s_move rfl rfl ?_) | (apply ks_bin; refine s_bin rfl rfl rfl ?_; (((refine bb_of rfl ?_)))) | (apply ks_asgn; refine s_asgn rfl rfl ?_) | (apply ks_pick; refine s_pick rfl rfl ?_; (first | (apply kp_t; refine pk_t rfl ?_) | (apply kp_f; refine pk_f rfl ?_))) | (apply ks_guard; ((refine sl_gd rfl rfl rfl rfl ?_; (first | (apply gd_t) | (apply gd_tf) | (apply gd_dec_f <;> intro hq <;> (try (exfalso; omega))))))))) | (apply sw_seq) | (apply sw_skip) | (apply sw_ret) | (apply sw_region) | (refine sw_cd rfl ?_; (first | (apply gd_t) | (apply gd_dec_t <;> intro hq <;> (try (exfalso; omega))))) | (apply at_thn) | (apply at_thn_ret)))
  all_goals (refine e_sv (by (exact .inr rfl)) rfl (by repeat ((exact List.Sublist.refl _))) ?_; (first | exact ri_t (by omega) rfl | exact ri_f (by omega) rfl))
theorem penEqvD (d : Nat) (x y z x' y' z' : Int) (b : Bool) (h : b = decide ((x, y, z) = (x', y', z'))) : EqVal Tryz.prog (d + 1 + 1) 30 (.agg [.int .i64 x, .int .i64 y, .int .i64 z].toArray) (.agg [.int .i64 x', .int .i64 y', .int .i64 z'].toArray) b := by
  have hfs : Tryz.prog.fieldsOf 30 = (match Tryz.prog.underlying 30 with | some (.struct fs) => fs | _ => #[]) := rfl
  refine eqval_struct (d := d + 1) (by rw [hfs, Tryz.underlying30]) (by kernel_rfl) ?_
  rw [hfs, Tryz.underlying30]
  have ne : ∀ a b : Int, ¬ a = b → EqVal Tryz.prog (d + 1) 3 (.int .i64 a) (.int .i64 b) false := fun a b hab => by
    have := eqval_int (P := Tryz.prog) (t := 3) (d := d) (k := .i64) a b
    rwa [show (a == b) = false from by simpa using hab] at this
  by_cases hx : x = x'
  · subst hx
    refine .eq (by decide) (u := .int .i64 x) (v := .int .i64 x) (part_one rfl) (part_one rfl) (eqself_int _) ?_
    by_cases hy : y = y'
    · subst hy
      refine .eq (by decide) (u := .int .i64 y) (v := .int .i64 y) (part_one rfl) (part_one rfl) (eqself_int _) ?_
      by_cases hz : z = z'
      · subst hz
        rw [h, decide_eq_true rfl]
        exact .eq (by decide) (u := .int .i64 z) (v := .int .i64 z) (part_one rfl) (part_one rfl) (eqself_int _) .nil
      · rw [h, decide_eq_false (by simp [hz])]
        exact .ne (by decide) (u := .int .i64 z) (v := .int .i64 z') (part_one rfl) (part_one rfl) (ne _ _ hz)
    · rw [h, decide_eq_false (by simp [hy])]
      exact .ne (by decide) (u := .int .i64 y) (v := .int .i64 y') (part_one rfl) (part_one rfl) (ne _ _ hy)
  · rw [h, decide_eq_false (by simp [hx])]
    exact .ne (by decide) (u := .int .i64 x) (v := .int .i64 x') (part_one rfl) (part_one rfl) (ne _ _ hx)
theorem penEqv (x y z x' y' z' : Int) (b : Bool) (h : b = decide ((x, y, z) = (x', y', z'))) : EqVal Tryz.prog 10000 30 (.agg [.int .i64 x, .int .i64 y, .int .i64 z].toArray) (.agg [.int .i64 x', .int .i64 y', .int .i64 z'].toArray) b := penEqvD 9998 x y z x' y' z' b h
theorem qI_cell {C : List Qd} {i : Int} (hi : i.toNat < C.length) : (qds C)[i.toNat * 4 + 0]? = some (.int .i64 (C.getD i.toNat qz).1) := qds_cell 0 hi (by decide)
theorem qI_pen {C : List Qd} {i : Int} (hi : i.toNat < C.length) : take? ((qds C).drop (i.toNat * 4 + 1)) 3 = some [.int .i64 (C.getD i.toNat qz).2.1, .int .i64 (C.getD i.toNat qz).2.2.1, .int .i64 (C.getD i.toNat qz).2.2.2] := qds_pen hi
theorem qI_lt {C : List Qd} {i : Int} (hi : i.toNat < C.length) : i.toNat * 4 < (qds C).length := by rw [qds_len]; omega
theorem tail_sv (G : Ctx) (H : List Ent) (C : List Qd) {vs : List Value} (a : Option Addr) (n c b k : Nat) [hB : HasBlk H b 26 [.slice a n c]] [h1 : RdC G H a vs] (hv : vs = qds C) (hn : n = C.length) (hm : n ≤ 100000) (hk : 1 ≤ k ∧ k ≤ n) : SV Tryz.prog G 183 [.int .i64 k, .pointer (some ⟨b, 0, none⟩)] H (.bool (decide (tailP C k))) := by
  subst hv
  have hlx : (qds C).length = n * 4 := by rw [qds_len, hn]
  by_cases h2 : k < n
  · have hc := qI_cell (C := C) (i := (k : Int)) (by omega)
    have hp := qI_pen (C := C) (i := (k : Int)) (by omega)
    have hp1 := qI_pen (C := C) (i := (k : Int) - 1) (by omega)
    have hl := qI_lt (C := C) (i := (k : Int)) (by omega)
    have hl1 := qI_lt (C := C) (i := (k : Int) - 1) (by omega)
    have e1 : ((k : Int) - 1).toNat = k - 1 := by omega
    have hE := penEqv (C.getD (k : Int).toNat qz).2.1 (C.getD (k : Int).toNat qz).2.2.1 (C.getD (k : Int).toNat qz).2.2.2 (C.getD ((k : Int) - 1).toNat qz).2.1 (C.getD ((k : Int) - 1).toNat qz).2.2.1 (C.getD ((k : Int) - 1).toNat qz).2.2.2 _ rfl
    have ht : decide (tailP C k) = (decide ((C.getD (k : Int).toNat qz).1 = 0) && decide (((C.getD (k : Int).toNat qz).2.1, (C.getD (k : Int).toNat qz).2.2.1, (C.getD (k : Int).toNat qz).2.2.2) = ((C.getD ((k : Int) - 1).toNat qz).2.1, (C.getD ((k : Int) - 1).toNat qz).2.2.1, (C.getD ((k : Int) - 1).toNat qz).2.2.2))) := by
      rw [e1, Int.toNat_natCast]
      refine Bool.eq_iff_iff.2 ⟨fun h => ?_, fun h => ?_⟩
      · have h := of_decide_eq_true h
        rw [Bool.and_eq_true]
        exact ⟨decide_eq_true h.2.1, decide_eq_true h.2.2⟩
      · rw [Bool.and_eq_true] at h
        exact decide_eq_true ⟨by omega, of_decide_eq_true h.1, of_decide_eq_true h.2⟩
    rw [ht]
    clear ht
    generalize C.getD (k : Int).toNat qz = q at *
    generalize C.getD ((k : Int) - 1).toNat qz = q1 at *
    obtain ⟨r, x, y, z⟩ := q
    obtain ⟨r1, x1, y1, z1⟩ := q1
    dsimp only at *
    generalize decide ((x, y, z) = (x1, y1, z1)) = B at *
    refine sv_enter2 Tryz.func183 rfl rfl rfl rfl rfl ?_
    repeat' ((first | (apply g_sl; (first | (apply ks_nil; refine sl_nil ?_) | (apply ks_asgn; refine s_asgn rfl rfl ?_))) | (apply g_sq; (first | (apply kq_nil; refine sq_nil ?_) | (apply kq_move; refine q_move rfl rfl ?_) | (apply kq_bin; refine q_bin rfl rfl rfl ?_; ((first | (refine bb_eqv hE (by kernel_rfl) ?_) | ((first | (apply kb_sub; (refine bb_sub ⟨by omega, by omega⟩ ?_)) | refine bb_of rfl ?_))))) | (apply kq_load; (first | (refine q_load rfl rfl ?_; (refine ld_cell rfl ?_)) | ((refine q_load rfl rfl ?_; (first | refine ld_elem hc ?_ | refine ld_elems hp rfl ?_ | refine ld_elems hp1 rfl ?_))))) | (apply kq_asgn; refine q_asgn rfl rfl ?_) | (apply kq_pick; refine q_pick rfl rfl ?_; (first | (apply kp_t; refine pk_t rfl ?_) | (apply kp_f; refine pk_f rfl ?_))) | (apply kq_indexA; (((refine q_indexA (c_indexAddr rfl rfl rfl hlx (by omega) (by omega)) rfl ?_)))) | (apply kq_bi; ((refine q_call (c_len rfl rfl) rfl ?_))) | (apply kq_guard; ((refine sq_gd rfl rfl rfl rfl ?_; (first | (apply gd_t) | (apply gd_ft) | (apply gd_dec_t <;> intro hq <;> (try (exfalso; omega))))))) | (first | (refine q_field (c_fieldE rfl rfl hl) rfl ?_) | (refine q_field (c_fieldE rfl rfl hl1) rfl ?_)))) | (apply sw_seq) | (apply sw_ret) | (apply sw_region) | (apply at_thn) | refine c_drawn (by kernel_rfl) ?_))
    · rw [decide_eq_true hq, Bool.true_and]
      refine e_sv (by (exact .inr rfl)) rfl (by repeat ((exact List.Sublist.refl _))) ?_
      rfl
    · rw [decide_eq_false hq, Bool.false_and]
      refine e_sv (by (exact .inr rfl)) rfl (by repeat ((exact List.Sublist.refl _))) ?_
      rfl
  · rw [decide_eq_false (fun h => h2 (by rw [hn]; exact h.1))]
    clear hlx
    refine sv_enter2 Tryz.func183 rfl rfl rfl rfl rfl ?_
    repeat' ((first | (apply g_sl; (first | (apply ks_nil; refine sl_nil ?_) | (apply ks_asgn; refine s_asgn rfl rfl ?_))) | (apply g_sq; (first | (apply kq_nil; refine sq_nil ?_) | (apply kq_move; refine q_move rfl rfl ?_) | (apply kq_bin; refine q_bin rfl rfl rfl ?_; (((refine bb_of rfl ?_)))) | (apply kq_load; ((refine q_load rfl rfl ?_; (refine ld_cell rfl ?_)))) | (apply kq_asgn; refine q_asgn rfl rfl ?_) | (apply kq_pick; refine q_pick rfl rfl ?_; ((apply kp_f; refine pk_f rfl ?_))) | (apply kq_bi; (refine q_call (c_len rfl rfl) rfl ?_)) | (apply kq_guard; ((refine sq_gd rfl rfl rfl rfl ?_; (first | (apply gd_ft) | (apply gd_dec_t <;> intro hq <;> (try (exfalso; omega))))))))) | (apply sw_seq) | (apply sw_ret) | (apply sw_region) | (apply at_thn) | refine c_drawn (by kernel_rfl) ?_))
    all_goals (refine e_sv (by (exact .inr rfl)) rfl (by repeat ((exact List.Sublist.refl _))) ?_; rfl)
theorem loneB_eq (wd : Int → Int) (C : List Qd) (i : Nat) : loneB wd C i = (if (C.getD i qz).1 = 0 then (decide (i = 0) || (decide (wd (C.getD (i - 1) qz).1 ≠ 2) || !decide (tailP C i))) else (decide (wd (C.getD i qz).1 = 2) && !decide (tailP C (i + 1)))) := by
  unfold loneB
  split
  · rw [Bool.eq_iff_iff]; simp
  · rw [Bool.eq_iff_iff]; simp
theorem lone_sv (G : Ctx) (H : List Ent) (C : List Qd) {vs : List Value} (a : Option Addr) (n c i : Nat) [h1 : RdC G H a vs] (hv : vs = qds C) (hn : n = C.length) (hm : n ≤ 100000) (hi : i < n) : SV Tryz.prog G 127 [.slice a n c, .int .i64 i] H (.bool (loneB refWidth C i)) := by
  subst hv
  have hlx : (qds C).length = n * 4 := by rw [qds_len, hn]
  have hc := qI_cell (C := C) (i := (i : Int)) (by omega)
  have hc1 := qI_cell (C := C) (i := (i : Int) - 1) (by omega)
  have hl := qI_lt (C := C) (i := (i : Int)) (by omega)
  have hl1 := qI_lt (C := C) (i := (i : Int) - 1) (by omega)
  have cW := fun H x => widthOf_sv G H x
  have cT := fun (H : List Ent) (b : Nat) [HasBlk H b 26 [.slice a n c]] [RdC G H a (qds C)] (h : 1 ≤ i) => tail_sv G H C a n c b i rfl hn hm ⟨h, by omega⟩
  have cT2 := fun (H : List Ent) (b : Nat) [HasBlk H b 26 [.slice a n c]] [RdC G H a (qds C)] => show SV Tryz.prog G 183 [.int .i64 ((i : Int) + 1), .pointer (some ⟨b, 0, none⟩)] H (.bool (decide (tailP C (i + 1)))) from tail_sv G H C a n c b (i + 1) rfl hn hm ⟨by omega, by omega⟩
  rw [loneB_eq]
  have e1 : ((i : Int) - 1).toNat = i - 1 := by omega
  rw [e1] at hc1
  rw [Int.toNat_natCast] at hc
  have hc1' : (qds C)[((i : Int) - 1).toNat * 4 + 0]? = some (.int .i64 (C.getD (i - 1) qz).1) := by rw [e1]; exact hc1
  have hc' : (qds C)[(i : Int).toNat * 4 + 0]? = some (.int .i64 (C.getD i qz).1) := by rw [Int.toNat_natCast]; exact hc
  generalize (C.getD i qz).1 = r at *
  generalize (C.getD (i - 1) qz).1 = r1 at *
  generalize decide (tailP C i) = B1 at *
  generalize decide (tailP C (i + 1)) = B2 at *
  clear hc hc1 e1
  by_cases hr : r = 0
  · rw [if_pos hr]
    subst hr
    generalize hw : refWidth r1 = w1 at *
    have cW1 := fun H => cW H r1
    rw [hw] at cW1
    clear cT2 cW hw
    refine sv_enter2 Tryz.func127 rfl rfl rfl rfl rfl ?_
    repeat' ((first | (apply g_sl; (first | (apply ks_nil; refine sl_nil ?_) | (apply ks_move; refine s_move rfl rfl ?_) | (apply ks_bin; refine s_bin rfl rfl rfl ?_; ((((first | (apply kb_sub; (refine bb_sub ⟨by omega, by omega⟩ ?_)) | refine bb_of rfl ?_))))) | (apply ks_load; (first | (refine s_load rfl rfl ?_; (refine ld_cell rfl ?_)) | ((refine s_load rfl rfl ?_; (first | refine ld_elem hc' ?_ | refine ld_elem hc1' ?_))))) | (apply ks_asgn; refine s_asgn rfl rfl ?_) | (apply ks_pick; refine s_pick rfl rfl ?_; (first | (apply kp_t; refine pk_t rfl ?_) | (apply kp_f; refine pk_f rfl ?_))) | (apply ks_un; refine s_un (y_un rfl rfl rfl) rfl ?_) | (apply ks_indexA; (((refine s_indexA (c_indexAddr rfl rfl rfl hlx (by omega) (by omega)) rfl ?_)))) | (apply ks_fn; (refine c_callv rfl rfl rfl (cW1 _) rfl rfl ?_)) | (apply ks_box; refine c_box rfl rfl rfl rfl rfl rfl (fun _ => ?_)) | (apply ks_guard; ((refine sl_gd rfl rfl rfl rfl ?_; (first | (apply gd_t) | (apply gd_tf) | (apply gd_dec_f <;> intro hq <;> (try (exfalso; omega))) | (apply gd_bne_f <;> intro hq <;> (try (exfalso; omega))))))) | (first | (refine s_mkfn (y_mkfn rfl rfl rfl) rfl ?_) | (refine s_field (c_fieldE rfl rfl hl) rfl ?_) | (refine s_field (c_fieldE rfl rfl hl1) rfl ?_) | (refine c_calldv rfl rfl rfl rfl (cT _ _ (by omega)) rfl rfl ?_)))) | (apply sw_seq) | (apply sw_ret) | (apply sw_region) | (refine sw_cd rfl ?_; ((apply gd_t))) | (apply at_thn) | (apply at_thn_ret)))
    all_goals
      refine e_sv (by (exact .inr rfl)) rfl (by repeat ((first | exact List.Sublist.refl _ | refine List.Sublist.cons _ ?_))) ?_
      first
        | (have h0 : i = 0 := (by omega)
           simp [h0, resV]
           done)
        | (have h0 : ¬ i = 0 := (by omega)
           simp [h0, hq, resV]
           done)
  · rw [if_neg hr]
    generalize hw : refWidth r = w at *
    have cW1 := fun H => cW H r
    rw [hw] at cW1
    clear cT cW hw
    refine sv_enter2 Tryz.func127 rfl rfl rfl rfl rfl ?_
    repeat' ((first | (apply g_sl; (first | (apply ks_nil; refine sl_nil ?_) | (apply ks_move; refine s_move rfl rfl ?_) | (apply ks_bin; refine s_bin rfl rfl rfl ?_; ((((first | (apply kb_add; (refine bb_add ⟨by omega, by omega⟩ ?_)) | refine bb_of rfl ?_))))) | (apply ks_load; (first | (refine s_load rfl rfl ?_; (refine ld_cell rfl ?_)) | ((refine s_load rfl rfl ?_; (refine ld_elem hc' ?_))))) | (apply ks_asgn; refine s_asgn rfl rfl ?_) | (apply ks_pick; refine s_pick rfl rfl ?_; (first | (apply kp_t; refine pk_t rfl ?_) | (apply kp_f; refine pk_f rfl ?_))) | (apply ks_un; refine s_un (y_un rfl rfl rfl) rfl ?_) | (apply ks_indexA; (((refine s_indexA (c_indexAddr rfl rfl rfl hlx (by omega) (by omega)) rfl ?_)))) | (apply ks_fn; (refine c_callv rfl rfl rfl (cW1 _) rfl rfl ?_)) | (apply ks_box; refine c_box rfl rfl rfl rfl rfl rfl (fun _ => ?_)) | (apply ks_guard; ((refine sl_gd rfl rfl rfl rfl ?_; (first | (apply gd_t) | (apply gd_ft) | (apply gd_dec_t <;> intro hq <;> (try (exfalso; omega))))))) | (first | (refine s_mkfn (y_mkfn rfl rfl rfl) rfl ?_) | (refine s_field (c_fieldE rfl rfl hl) rfl ?_) | (refine c_calldv rfl rfl rfl rfl (cT2 _ _) rfl rfl ?_)))) | (apply sw_seq) | (apply sw_skip) | (apply sw_ret) | (apply sw_region) | (refine sw_cd rfl ?_; ((apply gd_dec_t <;> intro hq <;> (try (exfalso; omega))))) | (apply at_thn)))
    all_goals
      refine e_sv (by (exact .inr rfl)) rfl (by repeat ((first | exact List.Sublist.refl _ | refine List.Sublist.cons _ ?_))) ?_
      simp [hq, resV]
end Go.Proofs.YtmbfechiallppaaGreatDoor
namespace Go.Proofs.YtmbfechiallppaaGreatDoor
open Go Go.RowKit Go.Fw Go.Sx
set_option maxRecDepth 100000
set_option maxHeartbeats 1000000
attribute [local irreducible] SW SL SQ AtQ SV SC BB LD PK Yields SO SOT SOA SY
theorem cloneQ_sc (G : Ctx) (H : List Ent) (C : List Qd) {vs : List Value} (a : Option Addr) (n c : Nat) [h1 : RdC G H a vs] (hv : vs = qds C) (hn : n = C.length) (hm : n ≤ 100000) : SC Tryz.prog G 79 [.slice a n c] H fun v H' => ∃ a' c', v = .slice a' n c' ∧ H' = .own 104 4 a' n c' (qds C) :: H := by
  subst hv
  have hlx : (qds C).length = n * 4 := by rw [qds_len, hn]
  have hone := qds_one C
  refine sc_here (callee_of Tryz.func79 rfl rfl) fun w0 hw0 => ?_
  cases a with
  | none =>
    have h0 := At.none_nil (h1.here w0 hw0)
    have hl0 : C.length = 0 := by
      have := congrArg List.length h0
      rw [qds_len, List.length_nil] at this
      omega
    obtain rfl : C = [] := List.eq_nil_of_length_eq_zero hl0
    obtain rfl : n = 0 := hn
    clear h0 hlx hone
    refine sc_enter1 Tryz.func79 rfl rfl rfl rfl rfl ?_
    repeat' ((first | (apply g_sl; (first | (apply ks_nil; refine sl_nil ?_) | (apply ks_move; refine s_move rfl rfl ?_) | (apply ks_bin; refine s_bin rfl rfl rfl ?_; ((refine bb_enil ?_))) | (apply ks_asgn; refine s_asgn rfl rfl ?_))) | (apply sw_seq) | (apply sw_ret) | (apply sw_region) | (refine sw_cd rfl ?_; ((apply gd_t))) | (apply at_thn) | (apply at_thn_ret)))
    · exact e_scf (.own 104 4 none 0 0 [] :: H) (.inr rfl) rfl (fun _ hw => hw.nilrow _ _) ⟨_, _, rfl, rfl⟩
  | some a =>
    clear hn
    refine sc_enter1 Tryz.func79 rfl rfl rfl rfl rfl ?_
    repeat' ((first | (apply g_sl; (first | (apply ks_nil; refine sl_nil ?_) | (apply ks_move; refine s_move rfl rfl ?_) | (apply ks_bin; refine s_bin rfl rfl rfl ?_; ((refine bb_enil ?_))) | (apply ks_asgn; refine s_asgn rfl rfl ?_) | (apply ks_bi; (((refine c_append rfl rfl rfl rfl hlx hone (by omega) rfl rfl (fun _ _ => ?_))))) | (apply ks_bs; (((refine c_bsl0 rfl rfl rfl rfl (fun _ => ?_))))))) | (apply sw_seq) | (apply sw_skip) | (apply sw_ret) | (apply sw_region) | (refine sw_cd rfl ?_; ((apply gd_ft))) | (apply at_thn)))
    refine e_sc _ (.inr rfl) rfl (List.Sublist.refl _) ?_
    simp only [Nat.zero_add, List.nil_append]
    exact ⟨_, _, rfl, rfl⟩
theorem qI_elem {C : List Qd} {i : Int} (hi : i.toNat < C.length) : take? ((qds C).drop (i.toNat * 4)) 4 = some (qd (C.getD i.toNat qz)) := qds_elem hi
abbrev gridV (w h : Int) (a : Option Addr) (n c : Nat) : Value := .agg [.int .i64 w, .int .i64 h, .slice a n c].toArray
theorem row_mul {w h k n : Nat} (hk : k < h) (hn : n = w * h) : k * w + w ≤ n := by
  have := Nat.mul_le_mul_right w (show k + 1 ≤ h from hk)
  rw [Nat.succ_mul, Nat.mul_comm h w] at this
  omega
/-- Row k of a grid. -/
def rowQ (w : Nat) (C : List Qd) (k : Nat) : List Qd := (C.drop (k * w)).take w
theorem rowQ_len {w h k : Nat} {C : List Qd} (hk : k < h) (hn : C.length = w * h) : (rowQ w C k).length = w := by
  unfold rowQ
  have := row_mul hk hn
  rw [List.length_take, List.length_drop]
  omega
theorem gridRow_sc (G : Ctx) (H : List Ent) (C : List Qd) {vs : List Value} (a : Option Addr) (w h n c k : Nat) [h1 : RdC G H a vs] (hv : vs = qds C) (hn : n = C.length) (hm : n ≤ 100000) (hnc : n ≤ c) (hwh : n = w * h) (hw : 1 ≤ w ∧ w ≤ 160) (hk : k < h) (hk2 : k ≤ 1000) : SC Tryz.prog G 80 [gridV w h a n c, .int .i64 k] H fun v H' => H' = H ∧ ∃ a' c', v = .slice a' w c' ∧ w ≤ c' ∧ RdC G H a' (qds (rowQ w C k)) := by
  subst hv
  have hlx : (qds C).length = n * 4 := by rw [qds_len, hn]
  have hr := row_mul hk hwh
  have e1 : (k : Int) * (w : Int) = ((k * w : Nat) : Int) := by simp
  have e2 : ((k : Int) + 1) * (w : Int) = ((k * w + w : Nat) : Int) := by rw [Int.add_mul]; simp
  have hpc : ((qds C).drop (((k : Int) * (w : Int)).toNat * 4)).take (((((k : Int) + 1) * (w : Int)).toNat - ((k : Int) * (w : Int)).toNat) * 4) = qds (rowQ w C k) := qds_piece C (k * w) w _ _ e1 (by rw [e2]; simp)
  have el : ((((k : Int) + 1) * (w : Int)).toNat - ((k : Int) * (w : Int)).toNat) = w := by rw [e1, e2]; omega
  have ec : w ≤ c - ((k : Int) * (w : Int)).toNat := by rw [e1]; omega
  generalize hp : k * w = p at *
  have hz : (Int.ofNat 0) ≤ (k : Int) * (w : Int) := by rw [e1]; exact Int.natCast_nonneg _
  refine sc_enter2 Tryz.func80 rfl rfl rfl rfl rfl ?_
  repeat' ((first | (apply g_sl; (first | (apply ks_nil; refine sl_nil ?_) | (apply ks_move; refine s_move rfl rfl ?_) | (apply ks_bin; refine s_bin rfl rfl rfl ?_; (first | (refine bb_mul ⟨by omega, by omega⟩ ?_) | (((apply kb_add; (refine bb_add ⟨by omega, by omega⟩ ?_)))))) | (apply ks_load; ((refine s_load rfl rfl ?_; (refine ld_cell rfl ?_)))) | (apply ks_asgn; refine s_asgn rfl rfl ?_) | (apply ks_field; (refine s_field (c_field0 rfl rfl) rfl ?_)) | (apply ks_box; refine c_box rfl rfl rfl rfl rfl rfl (fun _ => ?_)) | (apply ks_slice; (refine c_sliceSl (Hr := H) rfl rfl rfl rfl rfl RdC.here hlx (by omega) (by omega) (by omega) (by omega) rfl rfl (fun _ _ => ?_))))) | (apply sw_seq) | (apply sw_ret) | (apply sw_region) | (apply at_thn)))
  rename_i b a' hI
  rw [hpc] at hI
  refine e_sc H (by (exact .inr rfl)) rfl (by repeat ((first | exact List.Sublist.refl _ | refine List.Sublist.cons _ ?_))) ?_
  refine ⟨rfl, a', _, ?_, ec, hI⟩
  exact congrArg (fun m => Value.slice a' m (c - ((k : Int) * (w : Int)).toNat)) el
end Go.Proofs.YtmbfechiallppaaGreatDoor
namespace Go.Proofs.YtmbfechiallppaaGreatDoor
open Go Go.RowKit Go.Fw Go.Sx
set_option maxRecDepth 100000
set_option maxHeartbeats 1000000
attribute [local irreducible] SW SL SQ AtQ SV SC BB LD PK Yields SO SOT SOA SY
def cellOk (R : List Qd) (i : Nat) : Bool := penB (R.getD i qz).2.1 (R.getD i qz).2.2.1 (R.getD i qz).2.2.2 && ((decide ((R.getD i qz).1 = 0) || !decide (refWidth (R.getD i qz).1 = 0)) && !loneB refWidth R i)
def gridOk (w h : Nat) (C : List Qd) : Bool := (List.range h).all fun k => (List.range w).all fun i => cellOk (rowQ w C k) i
def gridE (w h : Int) (C : List Qd) : Int := if sizeE w h = 1 then 1 else if ¬ (C.length : Int) = w * h then 4 else if gridOk w.toNat h.toNat C = true then 0 else 4
theorem gridOk_iff (w h : Nat) (C : List Qd) : gridOk w h C = true ↔ ∀ k, k < h → ∀ i, i < w → cellOk (rowQ w C k) i = true := by
  unfold gridOk
  rw [List.all_eq_true]
  constructor
  · intro H k hk i hi
    exact List.all_eq_true.1 (H k (List.mem_range.2 hk)) i (List.mem_range.2 hi)
  · intro H k hk
    exact List.all_eq_true.2 fun i hi => H k (List.mem_range.1 hk) i (List.mem_range.1 hi)
theorem sizeE_01 (w h : Int) : sizeE w h = 0 ∧ (1 ≤ w ∧ w ≤ 160 ∧ 1 ≤ h ∧ h ≤ 60) ∨ sizeE w h = 1 ∧ ¬ (1 ≤ w ∧ w ≤ 160 ∧ 1 ≤ h ∧ h ≤ 60) := by
  unfold sizeE
  split
  · exact .inl ⟨rfl, by assumption⟩
  · exact .inr ⟨rfl, by assumption⟩
theorem gridE_good {w h : Nat} {C : List Qd} (hs : sizeE w h = 0) (hn : C.length = w * h) (hk : ∀ k, k < h → ∀ i, i < w → cellOk (rowQ w C k) i = true) : gridE w h C = 0 := by
  unfold gridE
  rw [if_neg (by rw [hs]; decide), if_neg (by rw [hn]; simp), if_pos]
  rw [gridOk_iff]
  exact hk
theorem gridE_bad {w h : Nat} {C : List Qd} (hs : sizeE w h = 0) (hn : C.length = w * h) {k i : Nat} (hk : k < h) (hi : i < w) (hb : cellOk (rowQ w C k) i = false) : gridE w h C = 4 := by
  unfold gridE
  rw [if_neg (by rw [hs]; decide), if_neg (by rw [hn]; simp), if_neg]
  rw [gridOk_iff]
  intro H
  have h2 : cellOk (rowQ w C k) i = true := H k hk i hi
  rw [hb] at h2
  cases h2
theorem gridCheck_sv (G : Ctx) (H : List Ent) (C : List Qd) {vs : List Value} (w h : Int) (a : Option Addr) (n c : Nat) [h1 : RdC G H a vs] (hv : vs = qds C) (hn : n = C.length) (hm : n ≤ 9223372036854775807) (hnc : n ≤ c) : SV Tryz.prog G 74 [gridV w h a n c] H (.int .i64 (gridE w h C)) := by
  subst hv
  have cS := fun H => gridSize_sv G H w h
  rcases sizeE_01 w h with ⟨hs, hwh⟩ | ⟨hs, hwh⟩
  · obtain ⟨w1, w2, h3, h4⟩ := hwh
    obtain ⟨w, rfl⟩ := Int.eq_ofNat_of_zero_le (show 0 ≤ w by omega)
    obtain ⟨h, rfl⟩ := Int.eq_ofNat_of_zero_le (show 0 ≤ h by omega)
    have hS := hs
    rw [hs] at cS
    have e1 : (w : Int) * (h : Int) = ((w * h : Nat) : Int) := by simp
    have hb : w * h ≤ 160 * 60 := Nat.mul_le_mul (by omega) (by omega)
    by_cases hnw : n = w * h
    · have cR := fun (H : List Ent) {vs : List Value} [RdC G H a vs] (hv : vs = qds C) (k : Nat) (hk : k < h) => gridRow_sc G H C a w h n c k hv hn (by omega) hnc hnw ⟨by omega, by omega⟩ hk (by omega)
      have hgood := fun hk => gridE_good (C := C) hS (by omega) hk
      have hbad := fun {k i : Nat} hk hi hb => gridE_bad (C := C) (k := k) (i := i) hS (by omega) hk hi hb
      have hRl := fun k hk => rowQ_len (w := w) (h := h) (k := k) (C := C) hk (by omega)
      have CR := Lib.hid cR
      have Hgood := Lib.hid hgood
      have Hbad := Lib.hid (fun k i => @hbad k i)
      have HRl := Lib.hid hRl
      have Hn := Lib.hid hnw
      generalize hwh : w * h = p at *
      clear cR hgood hbad hRl hn hS hs hwh
      refine sv_enter1 Tryz.func74 rfl rfl rfl rfl rfl ?_
      repeat' ((first | (apply g_sl; (first | (apply ks_nil; refine sl_nil ?_) | (apply ks_move; refine s_move rfl rfl ?_) | (apply ks_bin; refine s_bin rfl rfl rfl ?_; (first | (refine bb_mul ⟨by omega, by omega⟩ ?_) | ((refine bb_of rfl ?_)))) | (apply ks_load; ((refine s_load rfl rfl ?_; (refine ld_cell rfl ?_)))) | (apply ks_asgn; refine s_asgn rfl rfl ?_) | (apply ks_field; (refine s_field (c_field0 rfl rfl) rfl ?_)) | (apply ks_fn; (refine c_callv rfl rfl rfl (cS _) rfl rfl ?_)) | (apply ks_bi; (refine s_call (c_len rfl rfl) rfl ?_)) | (apply ks_box; refine c_box rfl rfl rfl rfl rfl rfl (fun _ => ?_)))) | (apply sw_seq) | (apply sw_skip) | (apply sw_block) | (apply sw_region) | (refine sw_cd rfl ?_; (first | (apply gd_ft) | (apply gd_bne_t <;> intro hq <;> (try (exfalso; omega))))) | (apply at_thn)))
      rename_i b
      have cP := fun H x y z => penCheck_sv G H x y z
      have cW := fun H x => widthOf_sv G H x
      refine sw_loopg (α := Nat) (fun k => [(1, .pointer (some ⟨b, 0, none⟩)), (26, .int .i64 h), (27, .int .i64 k)]) (fun _ => .blk b 28 [.int .i64 w, .int .i64 h, .slice a n c] :: H)
        (fun k => k ≤ h ∧ ∀ j, j < k → ∀ i, i < w → cellOk (rowQ w C j) i = true) (fun k => h - k) 0 ⟨Nat.zero_le _, fun j hj => absurd hj (Nat.not_lt_zero _)⟩ (by repeat ((first | exact Le.nil _ | refine Le.cons (by (rfl)) ?_))) (fun _ hw => hw.subs (by repeat ((first | refine Subs.cons (by repeat constructor) ?_ | exact Subs.sub (by repeat ((exact List.Sublist.refl _))))))) ?_
      rintro k ⟨hk, hs⟩
      have Hs := Lib.hid hs
      clear hs
      by_cases hlt : (k : Int) < h
      · have cRk := fun (H : List Ent) {vs : List Value} [RdC G H a vs] (hv : vs = qds C) => CR.out H hv k (by omega)
        have hRl := HRl.out k (by omega)
        have hbad := fun i hi hb => Hbad.out k i (by omega) hi hb
        have Hbk := Lib.hid hbad
        clear hbad CR Hbad HRl Hgood
        generalize hR : rowQ w C k = R at *
        repeat' ((first | (apply g_sl; (first | (apply ks_nil; refine sl_nil ?_) | (apply ks_move; refine s_move rfl rfl ?_) | (apply ks_bin; refine s_bin rfl rfl rfl ?_; (((refine bb_of rfl ?_)))) | (apply ks_load; ((refine s_load rfl rfl ?_; (refine ld_whole rfl ?_)))) | (apply ks_asgn; refine s_asgn rfl rfl ?_) | (apply ks_fn; ((refine c_call rfl rfl rfl (cRk _ rfl) rfl rfl ?_; rintro _ _ ⟨rfl, a', c', rfl, hc', hI⟩))) | (apply ks_bi; (refine s_call (c_len rfl rfl) rfl ?_)))) | (apply sw_seq) | (apply sw_skip) | (apply sw_block) | (apply sw_region) | (refine sw_cd rfl ?_; ((apply gd_dec_t <;> intro hq <;> (try (exfalso; omega))))) | (apply at_thn)))
        have hlR : (qds R).length = w * 4 := by rw [qds_len, hRl]
        have cL := fun (H : List Ent) {vs : List Value} [RdC G H a' vs] (hv : vs = qds R) (i : Nat) (hi : i < w) => lone_sv G H R a' w c' i hv hRl.symm (by omega) hi
        have CL := Lib.hid cL
        clear cL
        refine sw_loopg (α := Nat) (fun i => [(1, .pointer (some ⟨b, 0, none⟩)), (26, .int .i64 h), (27, .int .i64 k), (5, .slice a' w c'), (33, .slice a' w c'), (34, .int .i64 w), (35, .int .i64 i)]) (fun _ => .blk b 28 [.int .i64 w, .int .i64 h, .slice a n c] :: H)
          (fun i => i ≤ w ∧ ∀ j, j < i → cellOk R j = true) (fun i => w - i) 0 ⟨Nat.zero_le _, fun j hj => absurd hj (Nat.not_lt_zero _)⟩ (by repeat ((first | exact Le.nil _ | refine Le.cons (by (rfl)) ?_))) (fun _ hw => hw.subs (by repeat ((first | refine Subs.cons (by repeat constructor) ?_ | exact Subs.sub (by repeat ((exact List.Sublist.refl _))))))) ?_
        rintro i ⟨hi, hs2⟩
        have Hs2 := Lib.hid hs2
        clear hs2
        by_cases hlt2 : (i : Int) < w
        · have hel := qI_elem (C := R) (i := (i : Int)) (by omega)
          rw [show R.getD (i : Int).toNat qz = R.getD i qz from by rw [Int.toNat_natCast]] at hel
          have cLi := fun (H : List Ent) {vs : List Value} [RdC G H a' vs] (hv : vs = qds R) => CL.out H hv i (by omega)
          have hok : cellOk R i = (penB (R.getD i qz).2.1 (R.getD i qz).2.2.1 (R.getD i qz).2.2.2 && ((decide ((R.getD i qz).1 = 0) || !decide (refWidth (R.getD i qz).1 = 0)) && !loneB refWidth R i)) := rfl
          have hbd := fun hb => Hbk.out i (by omega) hb
          have hnx : cellOk R i = true → ∀ j, j < i + 1 → cellOk R j = true := fun h j hj => by
            rcases Nat.lt_or_ge j i with h' | h'
            · exact Hs2.out j h'
            · obtain rfl : j = i := by omega
              exact h
          have Hnx := Lib.hid hnx
          clear CL hnx
          generalize loneB refWidth R i = L at *
          generalize hqq : R.getD i qz = q at *
          obtain ⟨r, x, y, z⟩ := q
          dsimp only at hok
          have cPi := fun H => cP H x y z
          have cWi := fun H => cW H r
          generalize penB x y z = B at *
          generalize refWidth r = wd at *
          replace hel : take? ((qds R).drop ((i : Int).toNat * 4)) 4 = some [.int .i64 r, .int .i64 x, .int .i64 y, .int .i64 z] := hel
          cases B
          · have hf : cellOk R i = false := by rw [hok]; rfl
            have hbd := hbd hf
            rw [hbd]
            clear hok hf hbd Hnx cLi cW cWi
            repeat' ((first | (apply g_sl; (first | (apply ks_nil; refine sl_nil ?_) | (apply ks_move; refine s_move rfl rfl ?_) | (apply ks_bin; refine s_bin rfl rfl rfl ?_; ((((refine bb_of rfl ?_))))) | (apply ks_load; (first | (refine s_load rfl rfl ?_; (refine ld_part rfl rfl ?_)) | ((refine s_load rfl rfl ?_; refine ld_elems hel rfl ?_)))) | (apply ks_asgn; refine s_asgn rfl rfl ?_) | (apply ks_pick; refine s_pick rfl rfl ?_; ((apply kp_t; refine pk_t rfl ?_))) | (apply ks_field; (refine s_field (c_field0 rfl rfl) rfl ?_)) | (apply ks_indexA; (((refine s_indexA (c_indexAddr rfl rfl rfl hlR (by omega) (by omega)) rfl ?_)))) | (apply ks_fn; (refine c_callv rfl rfl rfl (cPi _) rfl rfl ?_)) | (apply ks_store; ((refine c_storew rfl rfl rfl rfl rfl rfl rfl rfl ?_))) | (apply ks_alloc; refine c_alloc rfl rfl rfl rfl (fun _ => ?_)) | (apply ks_guard; (first | (refine sl_gd rfl rfl rfl rfl ?_; ((apply gd_tf))) | refine sl_skip_u rfl rfl rfl rfl rfl rfl ?_)))) | (apply sw_seq) | (apply sw_skip) | (apply sw_ret) | (apply sw_block) | (apply sw_region) | (refine sw_cd rfl ?_; (first | (apply gd_t) | (apply gd_dec_t <;> intro hq <;> (try (exfalso; omega))))) | (apply at_thn) | (apply at_thn_ret) | (apply at_inb_ret)))
            all_goals (refine e_sv (by (exact .inr rfl)) rfl (by repeat ((first | exact List.Sublist.refl _ | refine List.Sublist.cons _ ?_))) ?_; rfl)
          · cases L
            · by_cases hg : r = 0 ∨ ¬ wd = 0
              · have hf : cellOk R i = true := by rw [hok]; rcases hg with h' | h' <;> simp [h']
                have hnx := Hnx.out hf
                clear hok hf hbd Hnx
                rcases hg with hg | hg
                all_goals
                  repeat' ((first | (apply g_sl; (first | (apply ks_nil; refine sl_nil ?_) | (apply ks_move; refine s_move rfl rfl ?_) | (apply ks_bin; refine s_bin rfl rfl rfl ?_; ((((first | (apply kb_add; (refine bb_add ⟨by omega, by omega⟩ ?_)) | refine bb_of rfl ?_))))) | (apply ks_load; (first | (refine s_load rfl rfl ?_; (first | refine ld_cell rfl ?_ | refine ld_part rfl rfl ?_)) | ((refine s_load rfl rfl ?_; refine ld_elems hel rfl ?_)))) | (apply ks_asgn; refine s_asgn rfl rfl ?_) | (apply ks_pick; refine s_pick rfl rfl ?_; (first | (apply kp_t; refine pk_t rfl ?_) | (apply kp_f; refine pk_f rfl ?_))) | (apply ks_field; (refine s_field (c_field0 rfl rfl) rfl ?_)) | (apply ks_indexA; (((refine s_indexA (c_indexAddr rfl rfl rfl hlR (by omega) (by omega)) rfl ?_)))) | (apply ks_fn; ((first | refine c_callv rfl rfl rfl (cPi _) rfl rfl ?_ | refine c_callv rfl rfl rfl (cWi _) rfl rfl ?_ | refine c_callv rfl rfl rfl (cLi _ rfl) rfl rfl ?_))) | (apply ks_store; ((refine c_storew rfl rfl rfl rfl rfl rfl rfl rfl ?_))) | (apply ks_alloc; refine c_alloc rfl rfl rfl rfl (fun _ => ?_)) | (apply ks_guard; ((refine sl_gd rfl rfl rfl rfl ?_; (first | (apply gd_t) | (apply gd_ft) | (apply gd_dec_f <;> intro hq <;> (try (exfalso; omega))) | (apply gd_bne_t <;> intro hq <;> (try (exfalso; omega))))))))) | (apply sw_seq) | (apply sw_skip) | (apply sw_block) | (apply sw_region) | (refine sw_cd rfl ?_; (first | (apply gd_ft) | (apply gd_dec_t <;> intro hq <;> (try (exfalso; omega))))) | (apply at_thn) | (apply at_inb)))
                  all_goals (exact at_meet (i + 1) ⟨⟨by omega, hnx⟩, by omega⟩ (by repeat ((first | exact Le.nil _ | refine Le.cons (by (rfl)) ?_))) (fun _ hw => hw.subs (by repeat ((first | refine Subs.cons (by repeat constructor) ?_ | exact Subs.sub (by repeat ((first | exact List.Sublist.refl _ | refine List.Sublist.cons _ ?_))))))))
              · have hg1 : ¬ r = 0 := fun h => hg (.inl h)
                have hg2 : wd = 0 := Classical.byContradiction fun h => hg (.inr h)
                have hf : cellOk R i = false := by rw [hok, decide_eq_false hg1, decide_eq_true hg2]; rfl
                have hbd := hbd hf
                rw [hbd]
                clear hok hf hbd Hnx cLi hg
                repeat' ((first | (apply g_sl; (first | (apply ks_nil; refine sl_nil ?_) | (apply ks_move; refine s_move rfl rfl ?_) | (apply ks_bin; refine s_bin rfl rfl rfl ?_; ((((refine bb_of rfl ?_))))) | (apply ks_load; (first | (refine s_load rfl rfl ?_; (first | refine ld_cell rfl ?_ | refine ld_part rfl rfl ?_)) | ((refine s_load rfl rfl ?_; refine ld_elems hel rfl ?_)))) | (apply ks_asgn; refine s_asgn rfl rfl ?_) | (apply ks_pick; refine s_pick rfl rfl ?_; (first | (apply kp_t; refine pk_t rfl ?_) | (apply kp_f; refine pk_f rfl ?_))) | (apply ks_field; (refine s_field (c_field0 rfl rfl) rfl ?_)) | (apply ks_indexA; (((refine s_indexA (c_indexAddr rfl rfl rfl hlR (by omega) (by omega)) rfl ?_)))) | (apply ks_fn; ((first | refine c_callv rfl rfl rfl (cPi _) rfl rfl ?_ | refine c_callv rfl rfl rfl (cWi _) rfl rfl ?_))) | (apply ks_store; ((refine c_storew rfl rfl rfl rfl rfl rfl rfl rfl ?_))) | (apply ks_alloc; refine c_alloc rfl rfl rfl rfl (fun _ => ?_)) | (apply ks_guard; ((refine sl_gd rfl rfl rfl rfl ?_; (first | (apply gd_t) | (apply gd_tf) | (apply gd_dec_f <;> intro hq <;> (try (exfalso; omega))) | (apply gd_bne_t <;> intro hq <;> (try (exfalso; omega))))))))) | (apply sw_seq) | (apply sw_skip) | (apply sw_ret) | (apply sw_block) | (apply sw_region) | (refine sw_cd rfl ?_; (first | (apply gd_t) | (apply gd_dec_t <;> intro hq <;> (try (exfalso; omega))))) | (apply at_thn) | (apply at_thn_ret) | (apply at_inb_ret)))
                all_goals ((refine e_sv (by (exact .inr rfl)) rfl (by repeat ((first | exact List.Sublist.refl _ | refine List.Sublist.cons _ ?_))) ?_; rfl))
            · have hf : cellOk R i = false := by rw [hok]; simp
              have hbd := hbd hf
              rw [hbd]
              clear hok hf hbd Hnx
              repeat' ((first | (apply g_sl; (first | (apply ks_nil; refine sl_nil ?_) | (apply ks_move; refine s_move rfl rfl ?_) | (apply ks_bin; refine s_bin rfl rfl rfl ?_; ((((refine bb_of rfl ?_))))) | (apply ks_load; (first | (refine s_load rfl rfl ?_; (first | refine ld_cell rfl ?_ | refine ld_part rfl rfl ?_)) | ((refine s_load rfl rfl ?_; refine ld_elems hel rfl ?_)))) | (apply ks_asgn; refine s_asgn rfl rfl ?_) | (apply ks_pick; refine s_pick rfl rfl ?_; (first | (apply kp_t; refine pk_t rfl ?_) | (apply kp_f; refine pk_f rfl ?_))) | (apply ks_field; (refine s_field (c_field0 rfl rfl) rfl ?_)) | (apply ks_indexA; (((refine s_indexA (c_indexAddr rfl rfl rfl hlR (by omega) (by omega)) rfl ?_)))) | (apply ks_fn; ((first | refine c_callv rfl rfl rfl (cPi _) rfl rfl ?_ | refine c_callv rfl rfl rfl (cWi _) rfl rfl ?_ | refine c_callv rfl rfl rfl (cLi _ rfl) rfl rfl ?_))) | (apply ks_store; ((refine c_storew rfl rfl rfl rfl rfl rfl rfl rfl ?_))) | (apply ks_alloc; refine c_alloc rfl rfl rfl rfl (fun _ => ?_)) | (apply ks_guard; ((refine sl_gd rfl rfl rfl rfl ?_; (first | (apply gd_t) | (apply gd_ft) | (apply gd_tf) | (apply gd_dec_f <;> intro hq <;> (try (exfalso; omega))) | (apply gd_bne_t <;> intro hq <;> (try (exfalso; omega))))))))) | (apply sw_seq) | (apply sw_skip) | (apply sw_ret) | (apply sw_block) | (apply sw_region) | (refine sw_cd rfl ?_; (first | (apply gd_t) | (apply gd_dec_t <;> intro hq <;> (try (exfalso; omega))))) | (apply at_thn) | (apply at_thn_ret) | (apply at_inb_ret)))
              all_goals ((refine e_sv (by (exact .inr rfl)) rfl (by repeat ((first | exact List.Sublist.refl _ | refine List.Sublist.cons _ ?_))) ?_; rfl))
        · obtain rfl : i = w := by omega
          repeat' ((first | (apply g_sl; (first | (apply ks_nil; refine sl_nil ?_) | (apply ks_move; refine s_move rfl rfl ?_) | (apply ks_bin; refine s_bin rfl rfl rfl ?_; (((first | (apply kb_add; (refine bb_add ⟨by omega, by omega⟩ ?_)) | refine bb_of rfl ?_)))))) | (apply sw_seq) | (apply sw_exit) | (apply sw_region) | (refine sw_cd rfl ?_; ((apply gd_dec_t <;> intro hq <;> (try (exfalso; omega))))) | (apply at_thn) | (apply at_thn_exit) | (apply at_inb) | (apply at_inb_exit)))
          refine at_meet (k + 1) ⟨⟨by omega, fun j hj i2 hi2 => ?_⟩, by omega⟩ (by repeat ((first | exact Le.nil _ | refine Le.cons (by (rfl)) ?_))) (fun _ hw => hw.subs (by repeat ((first | refine Subs.cons (by repeat constructor) ?_ | exact Subs.sub (by repeat ((exact List.Sublist.refl _)))))))
          rcases Nat.lt_or_ge j k with h' | h'
          · exact Hs.out j h' i2 hi2
          · obtain rfl : j = k := by omega
            rw [hR]
            exact Hs2.out i2 hi2
      · obtain rfl : k = h := by omega
        repeat' ((first | (apply g_sl; (first | (apply ks_nil; refine sl_nil ?_) | (apply ks_bin; refine s_bin rfl rfl rfl ?_; (((refine bb_of rfl ?_)))) | (apply ks_asgn; refine s_asgn rfl rfl ?_))) | (apply sw_seq) | (apply sw_ret) | (apply sw_exit) | (apply sw_region) | (refine sw_cd rfl ?_; ((apply gd_dec_t <;> intro hq <;> (try (exfalso; omega))))) | (apply at_thn) | (apply at_thn_exit) | (apply at_inb_exit)))
        refine e_sv (by (exact .inr rfl)) rfl (by repeat ((first | exact List.Sublist.refl _ | refine List.Sublist.cons _ ?_))) ?_
        rw [Hgood.out Hs.out]
        rfl
    · have hE : gridE w h C = 4 := by
        unfold gridE
        rw [if_neg (by rw [hs]; decide), if_pos (by rw [e1, ← hn]; omega)]
      rw [hE]
      generalize hwh : w * h = p at *
      clear hS hs hwh hn hE
      refine sv_enter1 Tryz.func74 rfl rfl rfl rfl rfl ?_
      repeat' ((first | (apply g_sl; (first | (apply ks_nil; refine sl_nil ?_) | (apply ks_move; refine s_move rfl rfl ?_) | (apply ks_bin; refine s_bin rfl rfl rfl ?_; (first | (refine bb_mul ⟨by omega, by omega⟩ ?_) | ((refine bb_of rfl ?_)))) | (apply ks_load; ((refine s_load rfl rfl ?_; (refine ld_cell rfl ?_)))) | (apply ks_asgn; refine s_asgn rfl rfl ?_) | (apply ks_field; (refine s_field (c_field0 rfl rfl) rfl ?_)) | (apply ks_fn; (refine c_callv rfl rfl rfl (cS _) rfl rfl ?_)) | (apply ks_bi; (refine s_call (c_len rfl rfl) rfl ?_)) | (apply ks_box; refine c_box rfl rfl rfl rfl rfl rfl (fun _ => ?_)))) | (apply sw_seq) | (apply sw_skip) | (apply sw_ret) | (apply sw_region) | (refine sw_cd rfl ?_; (first | (apply gd_ft) | (apply gd_bne_t <;> intro hq <;> (try (exfalso; omega))))) | (apply at_thn) | (apply at_thn_ret)))
      all_goals ((refine e_sv (by (exact .inr rfl)) rfl (by repeat ((first | exact List.Sublist.refl _ | refine List.Sublist.cons _ ?_))) ?_; rfl))
  · have hE : gridE w h C = 1 := by unfold gridE; rw [if_pos hs]
    rw [hE]
    rw [hs] at cS
    refine sv_enter1 Tryz.func74 rfl rfl rfl rfl rfl ?_
    repeat' ((first | (apply g_sl; (first | (apply ks_nil; refine sl_nil ?_) | (apply ks_move; refine s_move rfl rfl ?_) | (apply ks_bin; refine s_bin rfl rfl rfl ?_; (((refine bb_of rfl ?_)))) | (apply ks_load; ((refine s_load rfl rfl ?_; (refine ld_cell rfl ?_)))) | (apply ks_asgn; refine s_asgn rfl rfl ?_) | (apply ks_field; (refine s_field (c_field0 rfl rfl) rfl ?_)) | (apply ks_fn; (refine c_callv rfl rfl rfl (cS _) rfl rfl ?_)) | (apply ks_box; refine c_box rfl rfl rfl rfl rfl rfl (fun _ => ?_)))) | (apply sw_seq) | (apply sw_ret) | (apply sw_region) | (refine sw_cd rfl ?_; ((apply gd_t))) | (apply at_thn) | (apply at_thn_ret)))
    all_goals (refine e_sv (by (exact .inr rfl)) rfl (by repeat ((first | exact List.Sublist.refl _ | refine List.Sublist.cons _ ?_))) ?_; rfl)
end Go.Proofs.YtmbfechiallppaaGreatDoor
end
section
namespace Go.Sx
open Go Go.RowKit Go.Fw
/-- A row of its own. -/
abbrev Rw := Rx Qd
def rwV (x : Rw) : Value := .slice x.1 x.2.2.length x.2.1
theorem rwV_one (X : List Rw) : (X.map rwV).all (·.oneCell') = true := by
  rw [List.all_map]
  exact List.all_eq_true.2 fun _ _ => rfl
theorem rwV_at {X : List Rw} {k : Nat} {x : Rw} (h : X[k]? = some x) : (X.map rwV)[k]? = some (.slice x.1 x.2.2.length x.2.1) := by
  rw [List.getElem?_map, h]
  rfl
end Go.Sx
namespace Go.Proofs.YtmbfechiallppaaGreatDoor
open Go Go.RowKit Go.Fw Go.Sx
set_option maxRecDepth 100000
set_option maxHeartbeats 1000000
attribute [local irreducible] SW SL SQ AtQ SV SC BB LD PK Yields SO SOT SOA SY
end Go.Proofs.YtmbfechiallppaaGreatDoor
namespace Go.Fw
open Go Go.RowKit Go.Sx
/-- A cell mended: half of nothing is a blank. -/
def mendC (wd : Int → Int) (R : List Qd) (i : Nat) : Qd := if loneB wd R i = true then (32, (R.getD i qz).2) else R.getD i qz
/-- The first j mended. -/
def mendTo (wd : Int → Int) (R : List Qd) (j : Nat) : List Qd := (List.range R.length).map fun i => if i < j then mendC wd R i else R.getD i qz
theorem mendTo_len (wd : Int → Int) (R : List Qd) (j : Nat) : (mendTo wd R j).length = R.length := by simp [mendTo]
theorem mendTo_getD (wd : Int → Int) (R : List Qd) (j i : Nat) (hi : i < R.length) : (mendTo wd R j).getD i qz = if i < j then mendC wd R i else R.getD i qz := by
  unfold mendTo
  rw [List.getD_eq_getElem?_getD, List.getElem?_map, List.getElem?_range hi]
  rfl
theorem q_ext {A B : List Qd} (hl : A.length = B.length) (h : ∀ i, i < A.length → A.getD i qz = B.getD i qz) : A = B := List.ext_getElem hl fun i h1 h2 => by
  have := h i h1
  rw [List.getD_eq_getElem?_getD, List.getD_eq_getElem?_getD, List.getElem?_eq_getElem h1, List.getElem?_eq_getElem h2] at this
  exact this
theorem mendTo_0 (wd : Int → Int) (R : List Qd) : mendTo wd R 0 = R := q_ext (mendTo_len _ _ _) fun i hi => by
  rw [mendTo_len] at hi
  rw [mendTo_getD _ _ _ _ hi, if_neg (Nat.not_lt_zero _)]
theorem mendTo_no {wd : Int → Int} {R : List Qd} {j : Nat} (h : loneB wd R j = false) : mendTo wd R (j + 1) = mendTo wd R j := q_ext (by rw [mendTo_len, mendTo_len]) fun i hi => by
  rw [mendTo_len] at hi
  rw [mendTo_getD _ _ _ _ hi, mendTo_getD _ _ _ _ hi]
  rcases Nat.lt_trichotomy i j with h' | rfl | h'
  · rw [if_pos h', if_pos (by omega)]
  · rw [if_pos (by omega), if_neg (by omega)]
    unfold mendC
    rw [h]
    rfl
  · rw [if_neg (by omega), if_neg (by omega)]
theorem mendTo_yes {wd : Int → Int} {R : List Qd} {j : Nat} (h : loneB wd R j = true) (hj : j < R.length) : (mendTo wd R j).set j (32, (R.getD j qz).2) = mendTo wd R (j + 1) := q_ext (by rw [List.length_set, mendTo_len, mendTo_len]) fun i hi => by
  rw [List.length_set, mendTo_len] at hi
  rw [mendTo_getD _ _ _ _ hi]
  rcases Nat.lt_trichotomy i j with h' | rfl | h'
  · rw [List.getD_eq_getElem?_getD, List.getElem?_set_ne (by omega), ← List.getD_eq_getElem?_getD, mendTo_getD _ _ _ _ hi, if_pos h', if_pos (by omega)]
  · rw [List.getD_eq_getElem?_getD, List.getElem?_set_self (by rw [mendTo_len]; exact hi), if_pos (by omega)]
    unfold mendC
    rw [if_pos h]
    rfl
  · rw [List.getD_eq_getElem?_getD, List.getElem?_set_ne (by omega), ← List.getD_eq_getElem?_getD, mendTo_getD _ _ _ _ hi, if_neg (by omega), if_neg (by omega)]
def mendQ (wd : Int → Int) (R : List Qd) : List Qd := mendTo wd R R.length
end Go.Fw
namespace Go.Proofs.YtmbfechiallppaaGreatDoor
open Go Go.RowKit Go.Fw Go.Sx
set_option maxRecDepth 100000
set_option maxHeartbeats 1000000
attribute [local irreducible] SW SL SQ AtQ SV SC BB LD PK Yields SO SOT SOA SY
theorem blank_sv (G : Ctx) (H : List Ent) (x y z : Int) : SV Tryz.prog G 194 [penV x y z] H (.agg (qd (32, x, y, z)).toArray) := by
  refine sv_enter1 Tryz.func194 rfl rfl rfl rfl rfl ?_
  repeat' ((first | (apply g_sl; (first | (apply ks_nil; refine sl_nil ?_) | (apply ks_load; ((refine s_load rfl rfl ?_; (refine ld_whole rfl ?_)))) | (apply ks_build; (refine s_build (c_build rfl rfl rfl) rfl ?_)) | (apply ks_store; ((refine c_storew rfl rfl rfl rfl rfl rfl rfl rfl ?_))) | (apply ks_box; refine c_box rfl rfl rfl rfl rfl rfl (fun _ => ?_)) | (apply ks_alloc; refine c_alloc rfl rfl rfl rfl (fun _ => ?_)))) | (apply sw_seq) | (apply sw_ret) | (apply sw_region) | (apply at_thn)))
  refine e_scc H (by (exact .inr rfl)) rfl rfl rfl (fun _ hw => hw.subs (by repeat ((exact Subs.sub (by repeat ((first | exact List.Sublist.refl _ | refine List.Sublist.cons _ ?_))))))) ?_
  exact ⟨rfl, rfl⟩
end Go.Proofs.YtmbfechiallppaaGreatDoor
namespace Go.Fw
open Go Go.RowKit Go.Sx
theorem over_mid {A R B : List Qd} {i : Nat} (q : Qd) (hi : i < R.length) : over (qds A ++ qds R ++ qds B) (A.length * 4 + i * 4) (qd q) = qds A ++ qds (R.set i q) ++ qds B := by
  have h1 : A.length * 4 + i * 4 = (A.length + i) * 4 := by omega
  rw [← qds_app, ← qds_app, h1, qds_over q (by rw [List.length_append, List.length_append]; omega), List.append_assoc, List.set_append_right _ _ (by omega), show A.length + i - A.length = i from by omega, List.set_append_left _ _ hi, qds_app, qds_app, List.append_assoc]
end Go.Fw
namespace Go.Proofs.YtmbfechiallppaaGreatDoor
open Go Go.RowKit Go.Fw Go.Sx
set_option maxRecDepth 100000
set_option maxHeartbeats 1000000
attribute [local irreducible] SW SL SQ AtQ SV SC BB LD PK Yields SO SOT SOA SY
theorem repair_sc (G : Ctx) (H : List Ent) (A R B : List Qd) (b off w n c cp : Nat) (ho : off = A.length * 4) (hw : w = R.length) (hw1 : 1 ≤ w ∧ w ≤ 100000) : SC Tryz.prog G 154 [.slice (some ⟨b, off, none⟩) w cp] (.own 104 4 (some ⟨b, 0, none⟩) n c (qds A ++ qds R ++ qds B) :: H) fun v H' => v = .tuple #[] ∧ H' = .own 104 4 (some ⟨b, 0, none⟩) n c (qds A ++ qds (mendQ refWidth R) ++ qds B) :: H := by
  have hrd := fun (R' : List Qd) (h : R'.length = w) (H : List Ent) => rd_pre (rd_off (G := G) (e := 104) (sz := 4) (len := n) (c := c) (b := b) (xs := qds A) (ys := qds R') (zs := qds B) (us := []) (H := H) off (by rw [qds_len, ho]) (by rw [qds_len]; omega))
  have cC := fun (H : List Ent) (a : Option Addr) {vs : List Value} [RdC G H a vs] (hv : vs = qds R) => cloneQ_sc G H R a w cp hv hw hw1.2
  have cL := fun (H : List Ent) (a : Option Addr) (c : Nat) {vs : List Value} [RdC G H a vs] (hv : vs = qds R) (i : Nat) (hi : i < w) => lone_sv G H R a w c i hv hw hw1.2 hi
  have CL := Lib.hid cL
  haveI := hrd R hw.symm H
  refine sc_enter1 Tryz.func154 rfl rfl rfl rfl rfl ?_
  repeat' ((first | (apply g_sl; (first | (apply ks_nil; refine sl_nil ?_) | (apply ks_move; refine s_move rfl rfl ?_) | (apply ks_asgn; refine s_asgn rfl rfl ?_) | (apply ks_fn; ((refine c_call rfl rfl rfl (cC _ _ rfl) rfl rfl ?_; rintro _ _ ⟨a2, c2, rfl, rfl⟩))) | (apply ks_bi; (refine s_call (c_len rfl rfl) rfl ?_)))) | (apply sw_seq) | (apply sw_block) | (apply sw_region) | (apply at_thn)))
  clear cC cL
  refine sw_loopg (α := Nat) (fun j => [(0, .slice (some ⟨b, off, none⟩) w cp), (2, .slice a2 w c2), (7, .int .i64 w), (8, .int .i64 j)]) (fun j => .own 104 4 a2 w c2 (qds R) :: .own 104 4 (some ⟨b, 0, none⟩) n c (qds A ++ qds (mendTo refWidth R j) ++ qds B) :: H)
    (fun j => j ≤ w) (fun j => w - j) 0 (Nat.zero_le _) (by repeat ((first | exact Le.nil _ | refine Le.cons (by (rfl)) ?_))) (by rw [mendTo_0]; exact (fun _ hw => hw.subs (by repeat ((first | refine Subs.cons (by repeat constructor) ?_ | exact Subs.sub (by repeat ((exact List.Sublist.refl _)))))))) ?_
  intro j hj
  by_cases hlt : (j : Int) < w
  · have cLj := fun (H : List Ent) (a : Option Addr) (c : Nat) {vs : List Value} [RdC G H a vs] (hv : vs = qds R) => CL.out H a c hv j (by omega)
    have hlR : (qds R).length = w * 4 := by rw [qds_len, hw]
    have hl2 : (qds (mendTo refWidth R j)).length = w * 4 := by rw [qds_len, mendTo_len, hw]
    have hlt2 : (j : Int).toNat * 4 < (qds R).length := by rw [hlR]; omega
    cases hL : loneB refWidth R j
    · rw [hL] at cLj
      repeat' ((first | (apply g_sl; (first | (apply ks_nil; refine sl_nil ?_) | (apply ks_move; refine s_move rfl rfl ?_) | (apply ks_bin; refine s_bin rfl rfl rfl ?_; (((first | (apply kb_add; (refine bb_add ⟨by omega, by omega⟩ ?_)) | refine bb_of rfl ?_)))) | (apply ks_asgn; refine s_asgn rfl rfl ?_) | (apply ks_fn; (refine c_callv rfl rfl rfl (cLj _ _ _ rfl) rfl rfl ?_)))) | (apply sw_seq) | (apply sw_skip) | (apply sw_block) | (apply sw_region) | (refine sw_cd rfl ?_; (first | (apply gd_ft) | (apply gd_dec_t <;> intro hq <;> (try (exfalso; omega))))) | (apply at_thn) | (apply at_inb)))
      refine at_meet (j + 1) ⟨by omega, by omega⟩ (by repeat ((first | exact Le.nil _ | refine Le.cons (by (rfl)) ?_))) ?_
      rw [mendTo_no hL]
      exact (fun _ hw => hw.subs (by repeat ((first | refine Subs.cons (by repeat constructor) ?_ | exact Subs.sub (by repeat ((exact List.Sublist.refl _)))))))
    · rw [hL] at cLj
      haveI := hrd (mendTo refWidth R j) (by rw [mendTo_len, hw]) H
      have hp := qI_pen (C := R) (i := (j : Int)) (by omega)
      have cBk := fun H => blank_sv G H (R.getD (j : Int).toNat qz).2.1 (R.getD (j : Int).toNat qz).2.2.1 (R.getD (j : Int).toNat qz).2.2.2
      have hov : over (qds A ++ qds (mendTo refWidth R j) ++ qds B) (off + (j : Int).toNat * 4) (qd (32, (R.getD (j : Int).toNat qz).2.1, (R.getD (j : Int).toNat qz).2.2.1, (R.getD (j : Int).toNat qz).2.2.2)) = qds A ++ qds (mendTo refWidth R (j + 1)) ++ qds B := by
        rw [ho, Int.toNat_natCast, over_mid _ (by rw [mendTo_len]; omega)]
        exact congrArg (fun X => qds A ++ qds X ++ qds B) (mendTo_yes hL (by omega))
      have hll : off + (j : Int).toNat * 4 + 4 ≤ (qds A ++ qds (mendTo refWidth R j) ++ qds B).length := by
        rw [List.length_append, List.length_append, hl2, qds_len, ho]
        omega
      clear hrd CL
      repeat' ((first | (apply g_sl; (first | (apply ks_nil; refine sl_nil ?_) | (apply ks_move; refine s_move rfl rfl ?_) | (apply ks_bin; refine s_bin rfl rfl rfl ?_; ((((first | (apply kb_add; (refine bb_add ⟨by omega, by omega⟩ ?_)) | refine bb_of rfl ?_))))) | (apply ks_load; (((refine s_load rfl rfl ?_; refine ld_elems hp rfl ?_)))) | (apply ks_asgn; refine s_asgn rfl rfl ?_) | (apply ks_indexA; ((first | (refine s_indexA (c_indexAddr rfl rfl rfl hlR (by omega) (by omega)) rfl ?_) | (refine s_indexA (c_indexAddr rfl rfl rfl hl2 (by omega) (by omega)) rfl ?_)))) | (apply ks_fn; ((first | refine c_callv rfl rfl rfl (cLj _ _ _ rfl) rfl rfl ?_ | refine c_callv rfl rfl rfl (cBk _) rfl rfl ?_))) | (apply ks_store; ((((refine c_storeesO rfl rfl rfl rfl rfl rfl (Nat.zero_lt_succ 3) hll rfl ?_))))) | ((refine s_field (c_fieldE rfl rfl hlt2) rfl ?_)))) | (apply sw_seq) | (apply sw_skip) | (apply sw_block) | (apply sw_region) | (refine sw_cd rfl ?_; (first | (apply gd_t) | (apply gd_dec_t <;> intro hq <;> (try (exfalso; omega))))) | (apply at_thn) | (apply at_inb)))
      rw [hov]
      exact at_meet (j + 1) ⟨by omega, by omega⟩ (by repeat ((first | exact Le.nil _ | refine Le.cons (by (rfl)) ?_))) (fun _ hw => hw.subs (by repeat ((first | refine Subs.cons (by repeat constructor) ?_ | exact Subs.sub (by repeat ((exact List.Sublist.refl _)))))))
  · obtain rfl : j = w := by omega
    repeat' ((first | (apply g_sl; (first | (apply ks_nil; refine sl_nil ?_) | (apply ks_bin; refine s_bin rfl rfl rfl ?_; (((refine bb_of rfl ?_)))))) | (apply sw_seq) | (apply sw_exit) | (apply sw_region) | (refine sw_cd rfl ?_; ((apply gd_dec_t <;> intro hq <;> (try (exfalso; omega))))) | (apply at_thn) | (apply at_thn_exit) | (apply at_inb_exit)))
    refine e_sc (_ :: H) (by (exact .inl rfl)) rfl (List.Sublist.cons _ (List.Sublist.refl _)) ?_
    refine ⟨rfl, ?_⟩
    unfold mendQ
    rw [← hw]
end Go.Proofs.YtmbfechiallppaaGreatDoor
namespace Go.Fw
open Go Go.RowKit Go.Sx
/-- A sign put in a row. -/
def putQ (wd : Int → Int) (R : List Qd) (col : Nat) (r x y z : Int) : List Qd := if wd r = 2 then (R.set col (r, x, y, z)).set (col + 1) (0, x, y, z) else R.set col (r, x, y, z)
theorem putQ_len (wd : Int → Int) (R : List Qd) (col : Nat) (r x y z : Int) : (putQ wd R col r x y z).length = R.length := by
  unfold putQ
  split <;> simp
end Go.Fw
namespace Go.Proofs.YtmbfechiallppaaGreatDoor
open Go Go.RowKit Go.Fw Go.Sx
set_option maxRecDepth 100000
set_option maxHeartbeats 1000000
attribute [local irreducible] SW SL SQ AtQ SV SC BB LD PK Yields SO SOT SOA SY
theorem gridRowO_sv (G : Ctx) (H : List Ent) (b w h n c k p : Nat) (hp : (k : Int) * (w : Int) = (p : Int)) (hp2 : ((k : Int) + 1) * (w : Int) = ((p + w : Nat) : Int)) (hm : n ≤ 100000) (hn : p + w ≤ n) (hnc : n ≤ c) (hw : 1 ≤ w) (hk : k ≤ 1000) : SV Tryz.prog G 80 [gridV w h (some ⟨b, 0, none⟩) n c, .int .i64 k] H (.slice (some ⟨b, p * 4, none⟩) w (c - p)) := by
  have e : Value.slice (some ⟨b, p * 4, none⟩) w (c - p) = .slice (some ⟨b, ((k : Int) * (w : Int)).toNat * 4, none⟩) ((((k : Int) + 1) * (w : Int)).toNat - ((k : Int) * (w : Int)).toNat) (c - ((k : Int) * (w : Int)).toNat) := by
    rw [hp, hp2, Int.toNat_natCast, Int.toNat_natCast, Nat.add_sub_cancel_left]
  rw [e]
  refine sv_enter2 Tryz.func80 rfl rfl rfl rfl rfl ?_
  repeat' ((first | (apply g_sl; (first | (apply ks_nil; refine sl_nil ?_) | (apply ks_move; refine s_move rfl rfl ?_) | (apply ks_bin; refine s_bin rfl rfl rfl ?_; ((first | (refine bb_mul ⟨by omega, by omega⟩ ?_) | (((apply kb_add; (refine bb_add ⟨by omega, by omega⟩ ?_))))))) | (apply ks_load; ((refine s_load rfl rfl ?_; (refine ld_cell rfl ?_)))) | (apply ks_asgn; refine s_asgn rfl rfl ?_) | (apply ks_field; (refine s_field (c_field0 rfl rfl) rfl ?_)) | (apply ks_box; refine c_box rfl rfl rfl rfl rfl rfl (fun _ => ?_)) | (apply ks_slice; (((refine s_slice (y_sliceAt rfl rfl rfl rfl (by omega) (by omega) (by omega) (by omega)) rfl ?_)))))) | (apply sw_seq) | (apply sw_ret) | (apply sw_region) | (apply at_thn)))
  all_goals (refine e_sv (by (exact .inr rfl)) rfl (by repeat ((first | exact List.Sublist.refl _ | refine List.Sublist.cons _ ?_))) ?_; rfl)
theorem putIn_sc (G : Ctx) (H : List Ent) (A R B : List Qd) (b w h n c k col : Nat) (r x y z : Int) (hA : A.length = k * w) (hR : R.length = w) (hn : n = (A ++ R ++ B).length) (hm : n ≤ 100000) (hnc : n ≤ c) (hw : 1 ≤ w) (hk : k ≤ 1000) (hcol : col < w) (hcol2 : refWidth r = 2 → col + 1 < w) : SC Tryz.prog G 167 [gridV w h (some ⟨b, 0, none⟩) n c, .int .i64 k, .int .i64 col, .int .i64 r, penV x y z] (.own 104 4 (some ⟨b, 0, none⟩) n c (qds A ++ qds R ++ qds B) :: H) fun v H' => v = .tuple #[] ∧ H' = .own 104 4 (some ⟨b, 0, none⟩) n c (qds A ++ qds (mendQ refWidth (putQ refWidth R col r x y z)) ++ qds B) :: H := by
  have e1 : (k : Int) * (w : Int) = ((k * w : Nat) : Int) := by simp
  have e2 : ((k : Int) + 1) * (w : Int) = ((k * w + w : Nat) : Int) := by rw [Int.add_mul]; simp
  have hpn : k * w + w ≤ n := by rw [hn, List.length_append, List.length_append]; omega
  have cR := fun H => gridRowO_sv G H b w h n c k (k * w) e1 e2 hm hpn hnc hw hk
  have cP := fun (H : List Ent) (R' : List Qd) (hR' : R'.length = w) => repair_sc G H A R' B b (k * w * 4) w n c (c - k * w) (by rw [hA]) hR'.symm ⟨hw, by omega⟩
  have cW := fun H => widthOf_sv G H r
  have hrd := fun (R' : List Qd) (h : R'.length = w) (H : List Ent) => rd_pre (rd_off (G := G) (e := 104) (sz := 4) (len := n) (c := c) (b := b) (xs := qds A) (ys := qds R') (zs := qds B) (us := []) (H := H) (k * w * 4) (by rw [qds_len, hA]) (by rw [qds_len]; omega))
  have hov := fun (R' : List Qd) (hR' : R'.length = w) (i : Int) (q : Qd) (hi : i.toNat < w) => show over (qds A ++ qds R' ++ qds B) (k * w * 4 + i.toNat * 4) (qd q) = qds A ++ qds (R'.set i.toNat q) ++ qds B from by
    rw [← hA]; exact over_mid q (by rw [hR']; exact hi)
  have hll := fun (R' : List Qd) (hR' : R'.length = w) (i : Int) (hi : i.toNat < w) => show k * w * 4 + i.toNat * 4 + 4 ≤ (qds A ++ qds R' ++ qds B).length from by
    rw [List.length_append, List.length_append, qds_len, qds_len, hA, hR']; omega
  have hlR := fun (R' : List Qd) (hR' : R'.length = w) => show (qds R').length = w * 4 from by rw [qds_len, hR']
  generalize k * w = p at *
  clear e1 e2 hn hA
  have h1 := hlR R hR
  have h2 := hlR (R.set (col : Int).toNat (r, x, y, z)) (by rw [List.length_set, hR])
  have o1 : over (qds A ++ qds R ++ qds B) (p * 4 + (col : Int).toNat * 4) [.int .i64 r, .int .i64 x, .int .i64 y, .int .i64 z] = qds A ++ qds (R.set (col : Int).toNat (r, x, y, z)) ++ qds B := hov R hR (col : Int) (r, x, y, z) (by omega)
  have l1 := hll R hR (col : Int) (by omega)
  haveI := hrd R hR
  haveI := hrd (R.set (col : Int).toNat (r, x, y, z)) (by rw [List.length_set, hR])
  unfold putQ
  by_cases hwd : refWidth r = 2
  · rw [if_pos hwd]
    have hc2 := hcol2 hwd
    have o2 : over (qds A ++ qds (R.set (col : Int).toNat (r, x, y, z)) ++ qds B) (p * 4 + ((col : Int) + 1).toNat * 4) [.int .i64 0, .int .i64 x, .int .i64 y, .int .i64 z] = qds A ++ qds ((R.set (col : Int).toNat (r, x, y, z)).set ((col : Int) + 1).toNat (0, x, y, z)) ++ qds B := hov (R.set (col : Int).toNat (r, x, y, z)) (by rw [List.length_set, hR]) ((col : Int) + 1) (0, x, y, z) (by omega)
    have l2 := hll (R.set (col : Int).toNat (r, x, y, z)) (by rw [List.length_set, hR]) ((col : Int) + 1) (by omega)
    have cP2 := fun H => cP H ((R.set (col : Int).toNat (r, x, y, z)).set ((col : Int) + 1).toNat (0, x, y, z)) (by rw [List.length_set, List.length_set, hR])
    rw [show R.set col (r, x, y, z) = R.set (col : Int).toNat (r, x, y, z) from by rw [Int.toNat_natCast]]
    rw [show (R.set (col : Int).toNat (r, x, y, z)).set (col + 1) (0, x, y, z) = (R.set (col : Int).toNat (r, x, y, z)).set ((col : Int) + 1).toNat (0, x, y, z) from by rw [show ((col : Int) + 1).toNat = col + 1 from by omega]]
    rw [hwd] at cW
    clear cP hov hll hlR hcol2 hwd hrd
    refine sc_enter5 Tryz.func167 rfl rfl rfl rfl rfl ?_
    repeat' ((first | (apply g_sl; (first | (apply ks_nil; refine sl_nil ?_) | (apply ks_move; refine s_move rfl rfl ?_) | (apply ks_bin; refine s_bin rfl rfl rfl ?_; ((((first | (apply kb_add; (refine bb_add ⟨by omega, by omega⟩ ?_)) | refine bb_of rfl ?_))))) | (apply ks_load; ((refine s_load rfl rfl ?_; (refine ld_whole rfl ?_)))) | (apply ks_asgn; refine s_asgn rfl rfl ?_) | (apply ks_build; (refine s_build (c_build rfl rfl rfl) rfl ?_)) | (apply ks_indexA; ((first | (refine s_indexA (c_indexAddr rfl rfl rfl h1 (by omega) (by omega)) rfl ?_) | (refine s_indexA (c_indexAddr rfl rfl rfl h2 (by omega) (by omega)) rfl ?_)))) | (apply ks_fn; ((first | refine c_callv rfl rfl rfl (cR _) rfl rfl ?_ | refine c_callv rfl rfl rfl (cW _) rfl rfl ?_ | (refine c_call rfl rfl rfl (sc_pick PickOwn.here (cP2 _)) rfl rfl ?_; rintro _ _ ⟨rfl, rfl⟩)))) | (apply ks_store; (((first | (refine c_storeesO rfl rfl rfl rfl rfl rfl (Nat.zero_lt_succ 3) l1 rfl ?_; rw [o1]) | (refine c_storeesO rfl rfl rfl rfl rfl rfl (Nat.zero_lt_succ 3) l2 rfl ?_; rw [o2]))))) | (apply ks_box; refine c_box rfl rfl rfl rfl rfl rfl (fun _ => ?_)))) | (apply sw_seq) | (apply sw_region) | (refine sw_cd rfl ?_; ((apply gd_t))) | (apply at_thn)))
    refine e_sc (_ :: H) (by (exact .inl rfl)) rfl (List.Sublist.cons_cons _ (by repeat ((first | exact List.Sublist.refl _ | refine List.Sublist.cons _ ?_)))) ?_
    exact ⟨rfl, rfl⟩
  · rw [if_neg hwd]
    have cP1 := fun H => cP H (R.set (col : Int).toNat (r, x, y, z)) (by rw [List.length_set, hR])
    rw [show R.set col (r, x, y, z) = R.set (col : Int).toNat (r, x, y, z) from by rw [Int.toNat_natCast]]
    generalize refWidth r = wd at *
    clear cP hov hll hlR hcol2 hrd
    refine sc_enter5 Tryz.func167 rfl rfl rfl rfl rfl ?_
    repeat' ((first | (apply g_sl; (first | (apply ks_nil; refine sl_nil ?_) | (apply ks_move; refine s_move rfl rfl ?_) | (apply ks_bin; refine s_bin rfl rfl rfl ?_; ((((refine bb_of rfl ?_))))) | (apply ks_load; ((refine s_load rfl rfl ?_; (refine ld_whole rfl ?_)))) | (apply ks_asgn; refine s_asgn rfl rfl ?_) | (apply ks_build; (refine s_build (c_build rfl rfl rfl) rfl ?_)) | (apply ks_indexA; (((refine s_indexA (c_indexAddr rfl rfl rfl h1 (by omega) (by omega)) rfl ?_)))) | (apply ks_fn; ((first | refine c_callv rfl rfl rfl (cR _) rfl rfl ?_ | refine c_callv rfl rfl rfl (cW _) rfl rfl ?_ | (refine c_call rfl rfl rfl (sc_pick PickOwn.here (cP1 _)) rfl rfl ?_; rintro _ _ ⟨rfl, rfl⟩)))) | (apply ks_store; ((((refine c_storeesO rfl rfl rfl rfl rfl rfl (Nat.zero_lt_succ 3) l1 rfl ?_; rw [o1]))))) | (apply ks_box; refine c_box rfl rfl rfl rfl rfl rfl (fun _ => ?_)))) | (apply sw_seq) | (apply sw_skip) | (apply sw_region) | (refine sw_cd rfl ?_; ((apply gd_dec_t <;> intro hq <;> (try (exfalso; omega))))) | (apply at_thn)))
    refine e_sc (_ :: H) (by (exact .inl rfl)) rfl (List.Sublist.cons_cons _ (by repeat ((first | exact List.Sublist.refl _ | refine List.Sublist.cons _ ?_)))) ?_
    exact ⟨rfl, rfl⟩
end Go.Proofs.YtmbfechiallppaaGreatDoor
namespace Go.Sx
open Go Go.RowKit Go.Fw
end Go.Sx
namespace Go.Proofs.YtmbfechiallppaaGreatDoor
open Go Go.RowKit Go.Fw Go.Sx
set_option maxRecDepth 100000
set_option maxHeartbeats 1000000
attribute [local irreducible] SW SL SQ AtQ SV SC BB LD PK Yields SO SOT SOA SY
theorem gridClone_sc (G : Ctx) (H : List Ent) (C : List Qd) {vs : List Value} (w h : Int) (a : Option Addr) (n c : Nat) [h1 : RdC G H a vs] (hv : vs = qds C) (hn : n = C.length) (hm : n ≤ 100000) : SC Tryz.prog G 86 [gridV w h a n c] H fun v H' => ∃ a' c', v = gridV w h a' n c' ∧ H' = .own 104 4 a' n c' (qds C) :: H := by
  subst hv
  have cC := fun (H : List Ent) {vs : List Value} [RdC G H a vs] (hv : vs = qds C) => cloneQ_sc G H C a n c hv hn hm
  refine sc_enter1 Tryz.func86 rfl rfl rfl rfl rfl ?_
  repeat' ((first | (apply g_sl; (first | (apply ks_nil; refine sl_nil ?_) | (apply ks_load; ((refine s_load rfl rfl ?_; (first | refine ld_cell rfl ?_ | refine ld_whole rfl ?_)))) | (apply ks_field; (refine s_field (c_field0 rfl rfl) rfl ?_)) | (apply ks_fn; ((refine c_call rfl rfl rfl (cC _ rfl) rfl rfl ?_; rintro _ _ ⟨a2, c2, rfl, rfl⟩))) | (apply ks_store; ((first | refine c_store rfl rfl rfl rfl rfl rfl rfl ?_ | refine c_storew rfl rfl rfl rfl rfl rfl rfl rfl ?_))) | (apply ks_box; refine c_box rfl rfl rfl rfl rfl rfl (fun _ => ?_)) | (apply ks_alloc; refine c_alloc rfl rfl rfl rfl (fun _ => ?_)))) | (apply sw_seq) | (apply sw_ret) | (apply sw_region) | (apply at_thn)))
  refine e_scc (.own 104 4 a2 n c2 (qds C) :: H) (by (exact .inr rfl)) rfl rfl rfl (fun _ hw => hw.subs (by repeat ((first | refine Subs.cons (by repeat constructor) ?_ | exact Subs.sub (by repeat ((first | exact List.Sublist.refl _ | refine List.Sublist.cons _ ?_))))))) ?_
  exact ⟨a2, c2, rfl, rfl⟩
end Go.Proofs.YtmbfechiallppaaGreatDoor
namespace Go.Proofs.YtmbfechiallppaaGreatDoor
open Go Go.RowKit Go.Fw Go.Sx
set_option maxRecDepth 100000
set_option maxHeartbeats 1000000
attribute [local irreducible] SW SL SQ AtQ SV SC BB LD PK Yields SO SOT SOA SY
end Go.Proofs.YtmbfechiallppaaGreatDoor
namespace Go.Sx
open Go Go.RowKit Go.Fw
end Go.Sx
namespace Go.Proofs.YtmbfechiallppaaGreatDoor
open Go Go.RowKit Go.Fw Go.Sx
set_option maxRecDepth 100000
set_option maxHeartbeats 1000000
attribute [local irreducible] SW SL SQ AtQ SV SC BB LD PK Yields SO SOT SOA SY
end Go.Proofs.YtmbfechiallppaaGreatDoor
end
section
namespace Go.Proofs.YtmbfechiallppaaGreatDoor
open Go Go.RowKit Go.Fw Go.Sx
set_option maxRecDepth 100000
set_option maxHeartbeats 1000000
attribute [local irreducible] SW SL SQ AtQ SV SC BB LD PK Yields SO SOT SOA SY
theorem mul64_sv (G : Ctx) (H : List Ent) (k : Int) (hk : 0 ≤ k ∧ k < 2147483648) : SV Tryz.prog G 267 [.int .u64 1, .int .u64 k] H (.tuple #[.int .u64 0, .int .u64 k]) := by
  refine sv_enter2 Tryz.func267 rfl rfl rfl rfl rfl ?_
  repeat' ((first | (apply g_sl; (first | (apply ks_nil; refine sl_nil ?_) | (apply ks_move; refine s_move rfl rfl ?_) | (apply ks_bin; refine s_bin rfl rfl rfl ?_; (first | refine bb_and32 (by omega) (by omega) ?_ | ((first | (apply kb_add; (refine bb_add ⟨by omega, by omega⟩ ?_)) | (apply kb_mul; (refine bb_mul ⟨by omega, by omega⟩ ?_)) | (apply kb_shr; refine bb_shr rfl rfl rfl ?_))))) | (apply ks_asgn; refine s_asgn rfl rfl ?_))) | (apply sw_seq) | (apply sw_ret) | (apply sw_region) | (apply at_thn)))
  refine e_sv (by (exact .inr rfl)) rfl (by repeat ((exact List.Sublist.refl _))) ?_
  have e1 : k / 4294967296 = 0 := by omega
  simp [resV, e1]
theorem mul_sv (G : Ctx) (H : List Ent) (k : Int) (hk : 0 ≤ k ∧ k < 2147483648) : SV Tryz.prog G 243 [.int .u64 1, .int .u64 k] H (.tuple #[.int .u64 0, .int .u64 k]) := by
  have c := fun H => mul64_sv G H k hk
  refine sv_enter2 Tryz.func243 rfl rfl rfl rfl rfl ?_
  repeat' ((first | (apply g_sl; (first | (apply ks_nil; refine sl_nil ?_) | (apply ks_move; refine s_move rfl rfl ?_) | (apply ks_asgn; refine s_asgn rfl rfl ?_) | (apply ks_extr; refine s_extr (y_extract rfl rfl rfl) rfl ?_) | (apply ks_fn; (refine c_callv rfl rfl rfl (c _) rfl rfl ?_)))) | (apply sw_seq) | (apply sw_skip) | (apply sw_ret) | (apply sw_region) | (refine sw_cd rfl ?_; ((apply gd_ft))) | (apply at_thn)))
  refine e_sv (by (exact .inr rfl)) rfl (by repeat ((exact List.Sublist.refl _))) ?_
  rfl
end Go.Proofs.YtmbfechiallppaaGreatDoor
end
section
namespace Go.Fw
open Go Go.RowKit Go.Sx
theorem qds_rep (q : Qd) (k : Nat) : (List.replicate k (qd q)).flatten = qds (List.replicate k q) := by
  induction k with
  | zero => rfl
  | succ k ih => rw [List.replicate_succ, List.flatten_cons, ih, List.replicate_succ, qds_cons]
theorem made_qds (k : Nat) : (madeCells (#[.int .i64 0, .int .i64 0, .int .i64 0, .int .i64 0] : Array Value) (k * 4)).toList = qds (List.replicate k qz) := by
  have h := zeros_eq [.int .i64 0, .int .i64 0, .int .i64 0, .int .i64 0] k 4 rfl (by decide)
  have h2 := congrArg Array.toList h
  rw [← qds_rep]
  exact h2
/-- A row of which the first m places are written. -/
def rowP (q : Qd) (K m : Nat) : List Qd := List.replicate m q ++ List.replicate (K - m) qz
theorem rowP_len (q : Qd) {K m : Nat} (h : m ≤ K) : (rowP q K m).length = K := by simp [rowP]; omega
theorem rowP_take (q : Qd) {K m d : Nat} (h : d ≤ m) : (rowP q K m).take d = List.replicate d q := by
  unfold rowP
  rw [List.take_append_of_le_length (by simpa using h), List.take_replicate, Nat.min_eq_left h]
theorem over_qds (C D : List Qd) (k : Nat) : over (qds C) (k * 4) (qds D) = qds (C.take k ++ D ++ C.drop (k + D.length)) := by
  unfold over
  rw [qds_take, qds_len, ← Nat.add_mul, qds_drop, qds_app, qds_app]
theorem rowP_step (q : Qd) {K m d : Nat} (h : d ≤ m) (h2 : m + d ≤ K) : over (qds (rowP q K m)) (m * 4) ((qds (rowP q K m)).take (d * 4)) = qds (rowP q K (m + d)) := by
  rw [qds_take, rowP_take q h, over_qds, rowP_take q (Nat.le_refl m), List.length_replicate]
  congr 1
  unfold rowP
  rw [List.drop_append, List.length_replicate, List.drop_of_length_le (by simp), List.nil_append, show m + d - m = d from by omega, List.drop_replicate, List.replicate_append_replicate, show K - m - d = K - (m + d) from by omega]
theorem rowP_first (q : Qd) (K : Nat) : over (qds (List.replicate K qz)) 0 ((qd q).take (min 1 K * 4)) = qds (rowP q K (min 1 K)) := by
  rcases Nat.eq_zero_or_pos K with h | h
  · subst h; rfl
  · rw [Nat.min_eq_left h, show (qd q).take (1 * 4) = qds [q] from by rfl]
    show over (qds (List.replicate K qz)) (0 * 4) (qds [q]) = _
    rw [over_qds]
    congr 1
    unfold rowP
    simp
theorem rowP_all (q : Qd) (K : Nat) : rowP q K K = List.replicate K q := by simp [rowP]
end Go.Fw
namespace Go.Proofs.YtmbfechiallppaaGreatDoor
open Go Go.RowKit Go.Fw Go.Sx
set_option maxRecDepth 100000
set_option maxHeartbeats 1000000
attribute [local irreducible] SW SL SQ AtQ SV SC BB LD PK Yields SO SOT SOA SY
theorem repQ_sc (G : Ctx) (H : List Ent) (q : Qd) (a : Option Addr) (c : Nat) (k : Int) {vs : List Value} (hk : 0 ≤ k ∧ k ≤ 1000000) [hr : RdC G H a vs] (hv : vs = qd q) : SC Tryz.prog G 193 [.slice a 1 c, .int .i64 k] H (fun v H' => ∃ b, v = .slice (some ⟨b, 0, none⟩) k.toNat k.toNat ∧ H' = .own 104 4 (some ⟨b, 0, none⟩) k.toNat k.toNat (qds (List.replicate k.toNat q)) :: H) := by
  subst hv
  have cm := fun H => mul_sv G H k (by omega)
  obtain ⟨K, rfl⟩ : ∃ K : Nat, k = K := ⟨k.toNat, by omega⟩
  have hqone : ∀ d, ((qd q).take d).all (·.oneCell') = true := fun d => by
    rw [List.all_eq_true]
    intro v hv
    have := List.mem_of_mem_take hv
    simp [qd] at this
    rcases this with rfl | rfl | rfl | rfl <;> rfl
  refine sc_enter2 Tryz.func193 rfl rfl rfl rfl rfl ?_
  repeat' ((first | (apply g_sl; (first | (apply ks_nil; refine sl_nil ?_) | (apply ks_move; refine s_move rfl rfl ?_) | (apply ks_bin; refine s_bin rfl rfl rfl ?_; ((((refine bb_of rfl ?_))))) | (apply ks_asgn; refine s_asgn rfl rfl ?_) | (apply ks_pick; refine s_pick rfl rfl ?_; ((apply kp_f; refine pk_f rfl ?_))) | (apply ks_extr; refine s_extr (y_extract rfl rfl rfl) rfl ?_) | (apply ks_conv; ((first | refine s_conv (c_conv (k := .i64) rfl rfl ⟨by omega, by omega⟩) rfl ?_ | refine s_conv (c_conv (k := .u64) rfl rfl ⟨by omega, by omega⟩) rfl ?_))) | (apply ks_fn; (refine c_callv rfl rfl rfl (cm _) rfl rfl ?_)) | (apply ks_bi; ((refine s_call (c_len rfl rfl) rfl ?_))) | (apply ks_guard; ((refine sl_gd rfl rfl rfl rfl ?_; ((apply gd_t))))) | ((refine c_makes rfl rfl rfl rfl (by omega) (by omega) (by omega) rfl rfl (fun _ => ?_))))) | (apply sw_seq) | (apply sw_skip) | (apply sw_region) | (refine sw_cd rfl ?_; (first | (apply gd_ft) | (apply gd_dec_t <;> intro hq <;> (try (exfalso; omega))))) | (apply at_thn)))
  rename_i b
  rw [Int.toNat_natCast, made_qds]
  repeat' ((first | (apply g_sl; (first | (apply ks_nil; refine sl_nil ?_) | (apply ks_asgn; refine s_asgn rfl rfl ?_) | (apply ks_bi; ((refine c_copyA (off := 0) (m := min 1 K) rfl rfl rfl rfl rfl (by rw [qd_len]; omega) (by omega) (hqone _) rfl rfl ?_))))) | (apply sw_seq) | (apply sw_block) | (apply at_thn)))
  rw [rowP_first]
  refine sw_loopg (α := Nat) (fun m => [(7, .slice (some ⟨b, 0, none⟩) K K), (8, .int .i64 m)]) (fun m => .own 104 4 (some ⟨b, 0, none⟩) K K (qds (rowP q K m)) :: H)
    (fun m => m ≤ K ∧ (m = 0 → K = 0)) (fun m => K - m) (min 1 K) ⟨Nat.min_le_right _ _, fun h => by omega⟩ (by repeat ((first | exact Le.nil _ | refine Le.cons (by (rfl)) ?_))) (fun _ hw => hw.subs (by repeat ((first | refine Subs.cons (by repeat constructor) ?_ | exact Subs.sub (by repeat ((exact List.Sublist.refl _))))))) ?_
  rintro m ⟨hm, h0⟩
  by_cases hlt : (m : Int) < K
  · have hrl := rowP_len q hm
    have hql : (qds (rowP q K m)).length = K * 4 := by rw [qds_len, hrl]
    have hst := rowP_step q (K := K) (m := m) (d := min m (K - m)) (Nat.min_le_left _ _) (by omega)
    have hon : ((qds (rowP q K m)).take (min m (K - m) * 4)).all (·.oneCell') = true := by rw [qds_take]; exact qds_one _
    repeat' ((first | (apply g_sl; (first | (apply ks_nil; refine sl_nil ?_) | (apply ks_move; refine s_move rfl rfl ?_) | (apply ks_bin; refine s_bin rfl rfl rfl ?_; (((refine bb_of rfl ?_)))) | (apply ks_bi; (first | (refine c_copyA (m := min m (K - m)) rfl rfl rfl rfl rfl (by rw [hql]; omega) (by omega) hon rfl rfl ?_) | refine s_call (c_len rfl rfl) rfl ?_)))) | (apply g_atso; refine so_back (k := 0) (fun _ hw => hw.subs (by repeat ((exact Subs.sub (by repeat ((first | exact List.Sublist.refl _ | refine List.Sublist.cons _ ?_))))))) ?_) | (apply g_sot; (first | (refine sot_skip rfl ?_) | (refine sot_take rfl rfl rfl rfl (by kernel_rfl) (by decide +kernel) (by decide +kernel) ?_; ((first | (apply ky_move; refine sy_val (y_move rfl rfl) ?_) | (apply ky_bin; refine sy_bin rfl rfl ?_; (((((apply kb_add; (refine bb_add ⟨by omega, by omega⟩ ?_))))))) | (apply ky_asgn; refine sy_val (y_assign rfl rfl) ?_) | (apply ky_slice; ((first | (refine sy_val (y_slice0 rfl rfl rfl (by omega) (by omega)) ?_) | (refine sy_val (y_sliceAt rfl rfl rfl rfl (by omega) (by omega) (by omega) (by omega)) ?_))))))) | (refine sot_next rfl ?_) | (refine so_done (by decide +kernel) ?_) | (refine sot_all (by kernel_rfl) ?_))) | (apply g_soa; (first | (refine soa_end rfl) | (refine soa_no (by decide +kernel) ?_) | (refine soa_yes rfl ?_ ?_))) | (apply sw_seq) | (apply sw_skip) | (apply sw_block) | (apply sw_region) | (refine sw_cd rfl ?_; ((apply gd_dec_t <;> intro hq <;> (try (exfalso; omega))))) | (apply at_thn) | (apply at_inb) | ((((refine g_reg (id := 9) ?_; refine c_drawno (H) (fun _ hw => hw.subs (by repeat ((exact Subs.sub (by repeat ((first | exact List.Sublist.refl _ | refine List.Sublist.cons _ ?_))))))) ?_))))))
    rw [show ((m : Int)).toNat * 4 = m * 4 from rfl, hst]
    refine at_meet (m + min m (K - m)) ⟨⟨by omega, fun h => by omega⟩, by omega⟩ (by repeat ((first | exact Le.nil _ | refine Le.cons (by (rfl)) ?_))) (fun _ hw => hw.subs (by repeat ((first | refine Subs.cons (by repeat constructor) ?_ | exact Subs.sub (by repeat ((exact List.Sublist.refl _)))))))
  · obtain rfl : m = K := by omega
    repeat' ((first | (apply g_sl; (first | (apply ks_nil; refine sl_nil ?_) | (apply ks_move; refine s_move rfl rfl ?_) | (apply ks_bin; refine s_bin rfl rfl rfl ?_; (((refine bb_of rfl ?_)))) | (apply ks_asgn; refine s_asgn rfl rfl ?_) | (apply ks_bi; (refine s_call (c_len rfl rfl) rfl ?_)))) | (apply sw_seq) | (apply sw_ret) | (apply sw_exit) | (apply sw_region) | (refine sw_cd rfl ?_; ((apply gd_dec_t <;> intro hq <;> (try (exfalso; omega))))) | (apply at_thn) | (apply at_thn_exit) | (apply at_inb_exit)))
    rw [rowP_all]
    refine e_sc _ (.inr rfl) rfl (List.Sublist.refl _) ?_
    exact ⟨_, rfl, rfl⟩
theorem gblanks_sc (G : Ctx) (H : List Ent) (w h : Nat) (x y z : Int) (hw : 1 ≤ w ∧ w ≤ 160) (hh : 1 ≤ h ∧ h ≤ 60) : SC Tryz.prog G 142 [.int .i64 w, .int .i64 h, penV x y z] H fun v H' => ∃ b, v = gridV w h (some ⟨b, 0, none⟩) (w * h) (w * h) ∧ H' = .own 104 4 (some ⟨b, 0, none⟩) (w * h) (w * h) (qds (List.replicate (w * h) (32, x, y, z))) :: H := by
  have cB := fun H => blank_sv G H x y z
  have hb : w * h ≤ 160 * 60 := Nat.mul_le_mul (by omega) (by omega)
  have e1 : (w : Int) * (h : Int) = ((w * h : Nat) : Int) := by simp
  have cR := fun (H : List Ent) (a : Option Addr) {vs : List Value} [RdC G H a vs] (hv : vs = qd (32, x, y, z)) => repQ_sc G H (32, x, y, z) a 1 ((w : Int) * (h : Int)) (by rw [e1]; omega) hv
  rw [e1, Int.toNat_natCast] at cR
  generalize hp : w * h = p at *
  refine sc_enter3 Tryz.func142 rfl rfl rfl rfl rfl ?_
  repeat' ((first | (apply g_sl; (first | (apply ks_nil; refine sl_nil ?_) | (apply ks_move; refine s_move rfl rfl ?_) | (apply ks_bin; refine s_bin rfl rfl rfl ?_; (((refine bb_mul ⟨by omega, by omega⟩ ?_; rw [e1])))) | (apply ks_load; ((refine s_load rfl rfl ?_; (refine ld_whole rfl ?_)))) | (apply ks_build; (refine s_build (c_build rfl rfl rfl) rfl ?_)) | (apply ks_fn; ((first | refine c_callv rfl rfl rfl (cB _) rfl rfl ?_ | (refine c_call rfl rfl rfl (cR _ _ rfl) rfl rfl ?_; rintro _ _ ⟨b, rfl, rfl⟩)))) | (apply ks_store; ((refine c_storew rfl rfl rfl rfl rfl rfl rfl rfl ?_))) | (apply ks_box; refine c_box rfl rfl rfl rfl rfl rfl (fun _ => ?_)) | (apply ks_alloc; refine c_alloc rfl rfl rfl rfl (fun _ => ?_)) | (apply ks_bs; ((refine c_bsA rfl rfl rfl rfl rfl rfl rfl rfl rfl (fun _ => ?_)))))) | (apply sw_seq) | (apply sw_ret) | (apply sw_region) | (apply at_thn)))
  rename_i b1 b2 b3
  refine e_scc (.own 104 4 (some ⟨b, 0, none⟩) p p (qds (List.replicate p (32, x, y, z))) :: H) (by (exact .inr rfl)) rfl rfl rfl (fun _ hw => hw.subs (by repeat ((first | refine Subs.cons (by repeat constructor) ?_ | exact Subs.sub (by repeat ((first | exact List.Sublist.refl _ | refine List.Sublist.cons _ ?_))))))) ?_
  exact ⟨b, rfl, rfl⟩
theorem new_sc (G : Ctx) (H : List Ent) (w h : Nat) (x y z : Int) (hw : 1 ≤ w ∧ w ≤ 160) (hh : 1 ≤ h ∧ h ≤ 60) (hp : penB x y z = true) : SC Tryz.prog G 85 [.int .i64 w, .int .i64 h, penV x y z] H fun v H' => ∃ b, v = .tuple #[gridV w h (some ⟨b, 0, none⟩) (w * h) (w * h), .int .i64 0] ∧ H' = .own 104 4 (some ⟨b, 0, none⟩) (w * h) (w * h) (qds (List.replicate (w * h) (32, x, y, z))) :: H := by
  have cS := fun H => gridSize_sv G H w h
  have cP := fun H => penCheck_sv G H x y z
  have cB := fun H => gblanks_sc G H w h x y z hw hh
  have h1 : sizeE w h = 0 := by rcases sizeE_01 (w : Int) (h : Int) with ⟨h1, _⟩ | ⟨_, h1⟩; exact h1; omega
  rw [h1] at cS
  rw [hp] at cP
  generalize w * h = p at *
  refine sc_enter3 Tryz.func85 rfl rfl rfl rfl rfl ?_
  repeat' ((first | (apply g_sl; (first | (apply ks_nil; refine sl_nil ?_) | (apply ks_move; refine s_move rfl rfl ?_) | (apply ks_bin; refine s_bin rfl rfl rfl ?_; (((refine bb_of rfl ?_)))) | (apply ks_load; ((refine s_load rfl rfl ?_; (refine ld_whole rfl ?_)))) | (apply ks_asgn; refine s_asgn rfl rfl ?_) | (apply ks_fn; ((first | refine c_callv rfl rfl rfl (cS _) rfl rfl ?_ | refine c_callv rfl rfl rfl (cP _) rfl rfl ?_ | (refine c_call rfl rfl rfl (cB _) rfl rfl ?_; rintro _ _ ⟨b, rfl, rfl⟩)))) | (apply ks_store; ((refine c_storew rfl rfl rfl rfl rfl rfl rfl rfl ?_))) | (apply ks_box; refine c_box rfl rfl rfl rfl rfl rfl (fun _ => ?_)) | (apply ks_alloc; refine c_alloc rfl rfl rfl rfl (fun _ => ?_)))) | (apply sw_seq) | (apply sw_skip) | (apply sw_ret) | (apply sw_region) | (refine sw_cd rfl ?_; ((apply gd_ft))) | (apply at_thn)))
  refine e_scc (.own 104 4 (some ⟨b, 0, none⟩) p p (qds (List.replicate p (32, x, y, z))) :: H) (by (exact .inr rfl)) rfl rfl rfl (fun _ hw => hw.subs (by repeat ((first | refine Subs.cons (by repeat constructor) ?_ | exact Subs.sub (by repeat ((first | exact List.Sublist.refl _ | refine List.Sublist.cons _ ?_))))))) ?_
  exact ⟨b, rfl, rfl⟩
end Go.Proofs.YtmbfechiallppaaGreatDoor
end
section
namespace Go.Sx
open Go Go.RowKit Go.Fw
/-- A thing that is no cells is changed. -/
theorem Holds.setObj {G : Ctx} {H : List Ent} {w : World} {b : Nat} {o : Obj} (h : Holds G (.obj b o :: H) w) (o' : Obj) : Holds G (.obj b o' :: H) { w with heap := w.heap.setIfInBounds b o' } := by
  obtain ⟨hB, hb⟩ : G.B ≤ b ∧ w.heap[b]? = some o := h.ok _ List.mem_cons_self
  obtain ⟨hap, hapH⟩ := List.pairwise_cons.1 h.apart
  have hlt : b < w.heap.size := row_lt hb
  have ho : ∀ k, k ≠ b → (w.heap.setIfInBounds b o')[k]? = w.heap[k]? := fun k hk => by
    rw [Array.getElem?_setIfInBounds, if_neg (fun e => hk e.symm)]
  have hn : (w.heap.setIfInBounds b o')[b]? = some o' := by
    rw [Array.getElem?_setIfInBounds, if_pos rfl, if_pos hlt]
  refine ⟨h.below.trans ⟨rfl, rfl, rfl, Nat.le_of_eq (by simp), fun k hk => ho k (by omega)⟩, by simpa using h.base, fun x hx => ?_, List.pairwise_cons.2 ⟨fun y hy k hk => hap y hy k hk, hapH⟩⟩
  rcases List.mem_cons.1 hx with rfl | hx
  · exact ⟨hB, hn⟩
  · exact Ent.ok_of (h.ok x (List.mem_cons_of_mem _ hx)) fun k hk => ho k (fun e => hap x hx b rfl (e ▸ hk))
section
variable {P : Program} {G : Ctx} {n : Sz} {ops : Array Oper} {Q : Post} {s : Fm} {H : List Ent} {o : Oper} {rest : List Oper}
end
end Go.Sx
end
