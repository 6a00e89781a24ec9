/- What the types of this program are. -/
import Derived.Test.YtgcnfcgnkfkpeaaDoorSxB
import Derived.Test.YtgcnfcgnkfkpeaaDoorRows
namespace Go.Proofs.YtgcnfcgnkfkpeaaDoor
open Go Go.RowKit Go.Fw Go.Sx
set_option maxRecDepth 100000
instance : Wide Tryd.prog := ⟨by kernel_rfl⟩
instance : Sc Tryd.prog 1 := ⟨_, Tryd.underlying1, rfl, by kernel_rfl⟩
instance : ZeroT Tryd.prog 1 [.nilFunc] := ⟨.nilFunc, by kernel_rfl, .one rfl⟩
instance : Sc Tryd.prog 2 := ⟨_, Tryd.underlying2, rfl, by kernel_rfl⟩
instance : ZeroT Tryd.prog 2 [.int .i64 0] := ⟨.int .i64 0, by kernel_rfl, .one rfl⟩
instance : IntT Tryd.prog 2 .i64 := ⟨Tryd.underlying2⟩
instance : Sc Tryd.prog 3 := ⟨_, Tryd.underlying3, rfl, by kernel_rfl⟩
instance : ZeroT Tryd.prog 3 [.int .i64 0] := ⟨.int .i64 0, by kernel_rfl, .one rfl⟩
instance : IntT Tryd.prog 3 .i64 := ⟨Tryd.underlying3⟩
instance : Sc Tryd.prog 4 := ⟨_, Tryd.underlying4, rfl, by kernel_rfl⟩
instance : ZeroT Tryd.prog 4 [.bool false] := ⟨.bool false, by kernel_rfl, .one rfl⟩
instance : Sc Tryd.prog 5 := ⟨_, Tryd.underlying5, rfl, by kernel_rfl⟩
instance : ZeroT Tryd.prog 5 [.int .u8 0] := ⟨.int .u8 0, by kernel_rfl, .one rfl⟩
instance : IntT Tryd.prog 5 .u8 := ⟨Tryd.underlying5⟩
instance : Sc Tryd.prog 6 := ⟨_, Tryd.underlying6, rfl, by kernel_rfl⟩
instance : ZeroT Tryd.prog 6 [.int .u8 0] := ⟨.int .u8 0, by kernel_rfl, .one rfl⟩
instance : IntT Tryd.prog 6 .u8 := ⟨Tryd.underlying6⟩
instance : Ag Tryd.prog 7 4 := ⟨_, Tryd.underlying7, rfl, by kernel_rfl⟩
instance : FieldAt Tryd.prog 7 0 0 := ⟨_, _, 0, Tryd.underlying7, rfl, rfl, by kernel_rfl⟩
instance : FieldAt Tryd.prog 7 1 1 := ⟨_, _, 0, Tryd.underlying7, rfl, rfl, by kernel_rfl⟩
instance : FieldAt Tryd.prog 7 2 2 := ⟨_, _, 0, Tryd.underlying7, rfl, rfl, by kernel_rfl⟩
instance : FieldAt Tryd.prog 7 3 3 := ⟨_, _, 0, Tryd.underlying7, rfl, rfl, by kernel_rfl⟩
instance : OffsT Tryd.prog 7 [(0, 1), (1, 1), (2, 1), (3, 1)] [.int .i64 0, .int .i64 0, .bool false, .int .u8 0] := ⟨(([(0, 1), (1, 1), (2, 1), (3, 1)] : List (Nat × Nat)).toArray[·]?), fun _ => by kernel_rfl, fun i p h => by simpa using h⟩
instance : ZeroT Tryd.prog 7 [.int .i64 0, .int .i64 0, .bool false, .int .u8 0] := ⟨_, show still Tryd.prog (zeroValue 7) = some (.agg (List.toArray [.int .i64 0, .int .i64 0, .bool false, .int .u8 0])) by kernel_rfl, .agg _⟩
instance : Ag Tryd.prog 8 4 := ⟨_, Tryd.underlying8, rfl, by kernel_rfl⟩
instance : FieldAt Tryd.prog 8 0 0 := ⟨_, _, 0, Tryd.underlying8, rfl, rfl, by kernel_rfl⟩
instance : FieldAt Tryd.prog 8 1 1 := ⟨_, _, 0, Tryd.underlying8, rfl, rfl, by kernel_rfl⟩
instance : FieldAt Tryd.prog 8 2 2 := ⟨_, _, 0, Tryd.underlying8, rfl, rfl, by kernel_rfl⟩
instance : FieldAt Tryd.prog 8 3 3 := ⟨_, _, 0, Tryd.underlying8, rfl, rfl, by kernel_rfl⟩
instance : OffsT Tryd.prog 8 [(0, 1), (1, 1), (2, 1), (3, 1)] [.int .i64 0, .int .i64 0, .bool false, .int .u8 0] := ⟨(([(0, 1), (1, 1), (2, 1), (3, 1)] : List (Nat × Nat)).toArray[·]?), fun _ => by kernel_rfl, fun i p h => by simpa using h⟩
instance : ZeroT Tryd.prog 8 [.int .i64 0, .int .i64 0, .bool false, .int .u8 0] := ⟨_, show still Tryd.prog (zeroValue 8) = some (.agg (List.toArray [.int .i64 0, .int .i64 0, .bool false, .int .u8 0])) by kernel_rfl, .agg _⟩
instance : Sc Tryd.prog 9 := ⟨_, Tryd.underlying9, rfl, by kernel_rfl⟩
instance : ZeroT Tryd.prog 9 [.string .empty] := ⟨.string .empty, by kernel_rfl, .one rfl⟩
instance : StrT Tryd.prog 9 := ⟨Tryd.underlying9⟩
instance : Sc Tryd.prog 10 := ⟨_, Tryd.underlying10, rfl, by kernel_rfl⟩
instance : ZeroT Tryd.prog 10 [.string .empty] := ⟨.string .empty, by kernel_rfl, .one rfl⟩
instance : StrT Tryd.prog 10 := ⟨Tryd.underlying10⟩
instance : Sc Tryd.prog 11 := ⟨_, Tryd.underlying11, rfl, by kernel_rfl⟩
instance : ZeroT Tryd.prog 11 [.string .empty] := ⟨.string .empty, by kernel_rfl, .one rfl⟩
instance : StrT Tryd.prog 11 := ⟨Tryd.underlying11⟩
instance : Sc Tryd.prog 12 := ⟨_, Tryd.underlying12, rfl, by kernel_rfl⟩
instance : ZeroT Tryd.prog 12 [.int .u64 0] := ⟨.int .u64 0, by kernel_rfl, .one rfl⟩
instance : IntT Tryd.prog 12 .u64 := ⟨Tryd.underlying12⟩
instance : Ag Tryd.prog 13 2 := ⟨_, Tryd.underlying13, rfl, by kernel_rfl⟩
instance : FieldAt Tryd.prog 13 0 0 := ⟨_, _, 0, Tryd.underlying13, rfl, rfl, by kernel_rfl⟩
instance : FieldAt Tryd.prog 13 1 1 := ⟨_, _, 0, Tryd.underlying13, rfl, rfl, by kernel_rfl⟩
instance : OffsT Tryd.prog 13 [(0, 1), (1, 1)] [.string .empty, .int .u64 0] := ⟨(([(0, 1), (1, 1)] : List (Nat × Nat)).toArray[·]?), fun _ => by kernel_rfl, fun i p h => by simpa using h⟩
instance : ZeroT Tryd.prog 13 [.string .empty, .int .u64 0] := ⟨_, show still Tryd.prog (zeroValue 13) = some (.agg (List.toArray [.string .empty, .int .u64 0])) by kernel_rfl, .agg _⟩
instance : Ag Tryd.prog 14 2 := ⟨_, Tryd.underlying14, rfl, by kernel_rfl⟩
instance : FieldAt Tryd.prog 14 0 0 := ⟨_, _, 0, Tryd.underlying14, rfl, rfl, by kernel_rfl⟩
instance : FieldAt Tryd.prog 14 1 1 := ⟨_, _, 0, Tryd.underlying14, rfl, rfl, by kernel_rfl⟩
instance : OffsT Tryd.prog 14 [(0, 1), (1, 1)] [.string .empty, .int .u64 0] := ⟨(([(0, 1), (1, 1)] : List (Nat × Nat)).toArray[·]?), fun _ => by kernel_rfl, fun i p h => by simpa using h⟩
instance : ZeroT Tryd.prog 14 [.string .empty, .int .u64 0] := ⟨_, show still Tryd.prog (zeroValue 14) = some (.agg (List.toArray [.string .empty, .int .u64 0])) by kernel_rfl, .agg _⟩
instance : Sc Tryd.prog 15 := ⟨_, Tryd.underlying15, rfl, by kernel_rfl⟩
instance : ZeroT Tryd.prog 15 [.pointer none] := ⟨.pointer none, by kernel_rfl, .one rfl⟩
instance : Sc Tryd.prog 16 := ⟨_, Tryd.underlying16, rfl, by kernel_rfl⟩
instance : ZeroT Tryd.prog 16 [.pointer none] := ⟨.pointer none, by kernel_rfl, .one rfl⟩
instance : Sc Tryd.prog 17 := ⟨_, Tryd.underlying17, rfl, by kernel_rfl⟩
instance : ZeroT Tryd.prog 17 [.pointer none] := ⟨.pointer none, by kernel_rfl, .one rfl⟩
instance : Ag Tryd.prog 18 1 := ⟨_, Tryd.underlying18, rfl, by kernel_rfl⟩
instance : FieldAt Tryd.prog 18 0 0 := ⟨_, _, 0, Tryd.underlying18, rfl, rfl, by kernel_rfl⟩
instance : OffsT Tryd.prog 18 [(0, 1)] [.pointer none] := ⟨(([(0, 1)] : List (Nat × Nat)).toArray[·]?), fun _ => by kernel_rfl, fun i p h => by simpa using h⟩
instance : ZeroT Tryd.prog 18 [.pointer none] := ⟨_, show still Tryd.prog (zeroValue 18) = some (.agg (List.toArray [.pointer none])) by kernel_rfl, .agg _⟩
instance : Ag Tryd.prog 19 1 := ⟨_, Tryd.underlying19, rfl, by kernel_rfl⟩
instance : FieldAt Tryd.prog 19 0 0 := ⟨_, _, 0, Tryd.underlying19, rfl, rfl, by kernel_rfl⟩
instance : OffsT Tryd.prog 19 [(0, 1)] [.pointer none] := ⟨(([(0, 1)] : List (Nat × Nat)).toArray[·]?), fun _ => by kernel_rfl, fun i p h => by simpa using h⟩
instance : ZeroT Tryd.prog 19 [.pointer none] := ⟨_, show still Tryd.prog (zeroValue 19) = some (.agg (List.toArray [.pointer none])) by kernel_rfl, .agg _⟩
instance : Sc Tryd.prog 20 := ⟨_, Tryd.underlying20, rfl, by kernel_rfl⟩
instance : ZeroT Tryd.prog 20 [.nilIface] := ⟨.nilIface, by kernel_rfl, .one rfl⟩
instance : Sc Tryd.prog 21 := ⟨_, Tryd.underlying21, rfl, by kernel_rfl⟩
instance : ZeroT Tryd.prog 21 [.int .i32 0] := ⟨.int .i32 0, by kernel_rfl, .one rfl⟩
instance : IntT Tryd.prog 21 .i32 := ⟨Tryd.underlying21⟩
instance : Sc Tryd.prog 22 := ⟨_, Tryd.underlying22, rfl, by kernel_rfl⟩
instance : ZeroT Tryd.prog 22 [.int .u64 0] := ⟨.int .u64 0, by kernel_rfl, .one rfl⟩
instance : IntT Tryd.prog 22 .u64 := ⟨Tryd.underlying22⟩
instance : Ag Tryd.prog 23 4 := ⟨_, Tryd.underlying23, rfl, by kernel_rfl⟩
instance : ArrT Tryd.prog 23 4 22 1 := ⟨Tryd.underlying23, by kernel_rfl⟩
instance : OffsT Tryd.prog 23 (arrOffs 4 1) [.int .u64 0, .int .u64 0, .int .u64 0, .int .u64 0] := ⟨fun i => some (i * 1, 1), fun _ => by kernel_rfl, arrOffs_at 4 1⟩
instance : ZeroT Tryd.prog 23 [.int .u64 0, .int .u64 0, .int .u64 0, .int .u64 0] := ⟨_, show still Tryd.prog (zeroValue 23) = some (.agg (List.toArray [.int .u64 0, .int .u64 0, .int .u64 0, .int .u64 0])) by kernel_rfl, .agg _⟩
instance : Ag Tryd.prog 24 4 := ⟨_, Tryd.underlying24, rfl, by kernel_rfl⟩
instance : FieldAt Tryd.prog 24 0 0 := ⟨_, _, 3, Tryd.underlying24, rfl, rfl, by kernel_rfl⟩
instance : OffsT Tryd.prog 24 [(0, 4)] [.int .u64 0, .int .u64 0, .int .u64 0, .int .u64 0] := ⟨(([(0, 4)] : List (Nat × Nat)).toArray[·]?), fun _ => by kernel_rfl, fun i p h => by simpa using h⟩
instance : ZeroT Tryd.prog 24 [.int .u64 0, .int .u64 0, .int .u64 0, .int .u64 0] := ⟨_, show still Tryd.prog (zeroValue 24) = some (.agg (List.toArray [.int .u64 0, .int .u64 0, .int .u64 0, .int .u64 0])) by kernel_rfl, .agg _⟩
instance : Ag Tryd.prog 25 4 := ⟨_, Tryd.underlying25, rfl, by kernel_rfl⟩
instance : FieldAt Tryd.prog 25 0 0 := ⟨_, _, 3, Tryd.underlying25, rfl, rfl, by kernel_rfl⟩
instance : OffsT Tryd.prog 25 [(0, 4)] [.int .u64 0, .int .u64 0, .int .u64 0, .int .u64 0] := ⟨(([(0, 4)] : List (Nat × Nat)).toArray[·]?), fun _ => by kernel_rfl, fun i p h => by simpa using h⟩
instance : ZeroT Tryd.prog 25 [.int .u64 0, .int .u64 0, .int .u64 0, .int .u64 0] := ⟨_, show still Tryd.prog (zeroValue 25) = some (.agg (List.toArray [.int .u64 0, .int .u64 0, .int .u64 0, .int .u64 0])) by kernel_rfl, .agg _⟩
instance : Sc Tryd.prog 26 := ⟨_, Tryd.underlying26, rfl, by kernel_rfl⟩
instance : ZeroT Tryd.prog 26 [.int .i64 0] := ⟨.int .i64 0, by kernel_rfl, .one rfl⟩
instance : IntT Tryd.prog 26 .i64 := ⟨Tryd.underlying26⟩
instance : Sc Tryd.prog 28 := ⟨_, Tryd.underlying28, rfl, by kernel_rfl⟩
instance : ZeroT Tryd.prog 28 [.nilFunc] := ⟨.nilFunc, by kernel_rfl, .one rfl⟩
instance : Sc Tryd.prog 29 := ⟨_, Tryd.underlying29, rfl, by kernel_rfl⟩
instance : ZeroT Tryd.prog 29 [.nilFunc] := ⟨.nilFunc, by kernel_rfl, .one rfl⟩
instance : Sc Tryd.prog 30 := ⟨_, Tryd.underlying30, rfl, by kernel_rfl⟩
instance : ZeroT Tryd.prog 30 [.nilFunc] := ⟨.nilFunc, by kernel_rfl, .one rfl⟩
instance : Sc Tryd.prog 31 := ⟨_, Tryd.underlying31, rfl, by kernel_rfl⟩
instance : ZeroT Tryd.prog 31 [.slice none 0 0] := ⟨.slice none 0 0, by kernel_rfl, .one rfl⟩
instance : SliceT Tryd.prog 31 3 1 8 := ⟨Tryd.underlying31, by decide, by decide, .int .i64 0, by kernel_rfl, by kernel_rfl⟩
instance : Sc Tryd.prog 33 := ⟨_, Tryd.underlying33, rfl, by kernel_rfl⟩
instance : ZeroT Tryd.prog 33 [.nilFunc] := ⟨.nilFunc, by kernel_rfl, .one rfl⟩
instance : Sc Tryd.prog 34 := ⟨_, Tryd.underlying34, rfl, by kernel_rfl⟩
instance : ZeroT Tryd.prog 34 [.nilFunc] := ⟨.nilFunc, by kernel_rfl, .one rfl⟩
instance : Sc Tryd.prog 36 := ⟨_, Tryd.underlying36, rfl, by kernel_rfl⟩
instance : ZeroT Tryd.prog 36 [.nilFunc] := ⟨.nilFunc, by kernel_rfl, .one rfl⟩
instance : Sc Tryd.prog 37 := ⟨_, Tryd.underlying37, rfl, by kernel_rfl⟩
instance : ZeroT Tryd.prog 37 [.nilFunc] := ⟨.nilFunc, by kernel_rfl, .one rfl⟩
instance : Sc Tryd.prog 38 := ⟨_, Tryd.underlying38, rfl, by kernel_rfl⟩
instance : ZeroT Tryd.prog 38 [.nilFunc] := ⟨.nilFunc, by kernel_rfl, .one rfl⟩
instance : Sc Tryd.prog 39 := ⟨_, Tryd.underlying39, rfl, by kernel_rfl⟩
instance : ZeroT Tryd.prog 39 [.slice none 0 0] := ⟨.slice none 0 0, by kernel_rfl, .one rfl⟩
instance : SliceT Tryd.prog 39 9 1 16 := ⟨Tryd.underlying39, by decide, by decide, .string .empty, by kernel_rfl, by kernel_rfl⟩
instance : Sc Tryd.prog 41 := ⟨_, Tryd.underlying41, rfl, by kernel_rfl⟩
instance : ZeroT Tryd.prog 41 [.nilFunc] := ⟨.nilFunc, by kernel_rfl, .one rfl⟩
instance : Sc Tryd.prog 42 := ⟨_, Tryd.underlying42, rfl, by kernel_rfl⟩
instance : ZeroT Tryd.prog 42 [.nilFunc] := ⟨.nilFunc, by kernel_rfl, .one rfl⟩
instance : Sc Tryd.prog 44 := ⟨_, Tryd.underlying44, rfl, by kernel_rfl⟩
instance : ZeroT Tryd.prog 44 [.nilFunc] := ⟨.nilFunc, by kernel_rfl, .one rfl⟩
instance : Sc Tryd.prog 45 := ⟨_, Tryd.underlying45, rfl, by kernel_rfl⟩
instance : ZeroT Tryd.prog 45 [.nilFunc] := ⟨.nilFunc, by kernel_rfl, .one rfl⟩
instance : Sc Tryd.prog 46 := ⟨_, Tryd.underlying46, rfl, by kernel_rfl⟩
instance : ZeroT Tryd.prog 46 [.nilFunc] := ⟨.nilFunc, by kernel_rfl, .one rfl⟩
instance : Sc Tryd.prog 47 := ⟨_, Tryd.underlying47, rfl, by kernel_rfl⟩
instance : ZeroT Tryd.prog 47 [.nilFunc] := ⟨.nilFunc, by kernel_rfl, .one rfl⟩
instance : Ag Tryd.prog 48 4 := ⟨_, Tryd.underlying48, rfl, by kernel_rfl⟩
instance : FieldAt Tryd.prog 48 0 0 := ⟨_, _, 0, Tryd.underlying48, rfl, rfl, by kernel_rfl⟩
instance : FieldAt Tryd.prog 48 1 1 := ⟨_, _, 0, Tryd.underlying48, rfl, rfl, by kernel_rfl⟩
instance : FieldAt Tryd.prog 48 2 2 := ⟨_, _, 0, Tryd.underlying48, rfl, rfl, by kernel_rfl⟩
instance : FieldAt Tryd.prog 48 3 3 := ⟨_, _, 0, Tryd.underlying48, rfl, rfl, by kernel_rfl⟩
instance : OffsT Tryd.prog 48 [(0, 1), (1, 1), (2, 1), (3, 1)] [.int .i64 0, .int .i64 0, .int .i64 0, .string .empty] := ⟨(([(0, 1), (1, 1), (2, 1), (3, 1)] : List (Nat × Nat)).toArray[·]?), fun _ => by kernel_rfl, fun i p h => by simpa using h⟩
instance : ZeroT Tryd.prog 48 [.int .i64 0, .int .i64 0, .int .i64 0, .string .empty] := ⟨_, show still Tryd.prog (zeroValue 48) = some (.agg (List.toArray [.int .i64 0, .int .i64 0, .int .i64 0, .string .empty])) by kernel_rfl, .agg _⟩
instance : Ag Tryd.prog 49 4 := ⟨_, Tryd.underlying49, rfl, by kernel_rfl⟩
instance : FieldAt Tryd.prog 49 0 0 := ⟨_, _, 0, Tryd.underlying49, rfl, rfl, by kernel_rfl⟩
instance : FieldAt Tryd.prog 49 1 1 := ⟨_, _, 0, Tryd.underlying49, rfl, rfl, by kernel_rfl⟩
instance : FieldAt Tryd.prog 49 2 2 := ⟨_, _, 0, Tryd.underlying49, rfl, rfl, by kernel_rfl⟩
instance : FieldAt Tryd.prog 49 3 3 := ⟨_, _, 0, Tryd.underlying49, rfl, rfl, by kernel_rfl⟩
instance : OffsT Tryd.prog 49 [(0, 1), (1, 1), (2, 1), (3, 1)] [.int .i64 0, .int .i64 0, .int .i64 0, .string .empty] := ⟨(([(0, 1), (1, 1), (2, 1), (3, 1)] : List (Nat × Nat)).toArray[·]?), fun _ => by kernel_rfl, fun i p h => by simpa using h⟩
instance : ZeroT Tryd.prog 49 [.int .i64 0, .int .i64 0, .int .i64 0, .string .empty] := ⟨_, show still Tryd.prog (zeroValue 49) = some (.agg (List.toArray [.int .i64 0, .int .i64 0, .int .i64 0, .string .empty])) by kernel_rfl, .agg _⟩
instance : Sc Tryd.prog 50 := ⟨_, Tryd.underlying50, rfl, by kernel_rfl⟩
instance : ZeroT Tryd.prog 50 [.slice none 0 0] := ⟨.slice none 0 0, by kernel_rfl, .one rfl⟩
instance : SliceT Tryd.prog 50 49 4 40 := ⟨Tryd.underlying50, by decide, by decide, .agg #[.int .i64 0, .int .i64 0, .int .i64 0, .string .empty], by kernel_rfl, by kernel_rfl⟩
instance : Sc Tryd.prog 52 := ⟨_, Tryd.underlying52, rfl, by kernel_rfl⟩
instance : ZeroT Tryd.prog 52 [.nilFunc] := ⟨.nilFunc, by kernel_rfl, .one rfl⟩
instance : Sc Tryd.prog 53 := ⟨_, Tryd.underlying53, rfl, by kernel_rfl⟩
instance : ZeroT Tryd.prog 53 [.nilFunc] := ⟨.nilFunc, by kernel_rfl, .one rfl⟩
instance : Sc Tryd.prog 54 := ⟨_, Tryd.underlying54, rfl, by kernel_rfl⟩
instance : ZeroT Tryd.prog 54 [.nilFunc] := ⟨.nilFunc, by kernel_rfl, .one rfl⟩
instance : Sc Tryd.prog 55 := ⟨_, Tryd.underlying55, rfl, by kernel_rfl⟩
instance : ZeroT Tryd.prog 55 [.nilFunc] := ⟨.nilFunc, by kernel_rfl, .one rfl⟩
instance : Sc Tryd.prog 56 := ⟨_, Tryd.underlying56, rfl, by kernel_rfl⟩
instance : ZeroT Tryd.prog 56 [.nilFunc] := ⟨.nilFunc, by kernel_rfl, .one rfl⟩
instance : Sc Tryd.prog 57 := ⟨_, Tryd.underlying57, rfl, by kernel_rfl⟩
instance : ZeroT Tryd.prog 57 [.nilFunc] := ⟨.nilFunc, by kernel_rfl, .one rfl⟩
instance : Ag Tryd.prog 58 32 := ⟨_, Tryd.underlying58, rfl, by kernel_rfl⟩
instance : ArrT Tryd.prog 58 32 5 1 := ⟨Tryd.underlying58, by kernel_rfl⟩
instance : OffsT Tryd.prog 58 (arrOffs 32 1) [.int .u8 0, .int .u8 0, .int .u8 0, .int .u8 0, .int .u8 0, .int .u8 0, .int .u8 0, .int .u8 0, .int .u8 0, .int .u8 0, .int .u8 0, .int .u8 0, .int .u8 0, .int .u8 0, .int .u8 0, .int .u8 0, .int .u8 0, .int .u8 0, .int .u8 0, .int .u8 0, .int .u8 0, .int .u8 0, .int .u8 0, .int .u8 0, .int .u8 0, .int .u8 0, .int .u8 0, .int .u8 0, .int .u8 0, .int .u8 0, .int .u8 0, .int .u8 0] := ⟨fun i => some (i * 1, 1), fun _ => by kernel_rfl, arrOffs_at 32 1⟩
instance : ZeroT Tryd.prog 58 [.int .u8 0, .int .u8 0, .int .u8 0, .int .u8 0, .int .u8 0, .int .u8 0, .int .u8 0, .int .u8 0, .int .u8 0, .int .u8 0, .int .u8 0, .int .u8 0, .int .u8 0, .int .u8 0, .int .u8 0, .int .u8 0, .int .u8 0, .int .u8 0, .int .u8 0, .int .u8 0, .int .u8 0, .int .u8 0, .int .u8 0, .int .u8 0, .int .u8 0, .int .u8 0, .int .u8 0, .int .u8 0, .int .u8 0, .int .u8 0, .int .u8 0, .int .u8 0] := ⟨_, show still Tryd.prog (zeroValue 58) = some (.agg (List.toArray [.int .u8 0, .int .u8 0, .int .u8 0, .int .u8 0, .int .u8 0, .int .u8 0, .int .u8 0, .int .u8 0, .int .u8 0, .int .u8 0, .int .u8 0, .int .u8 0, .int .u8 0, .int .u8 0, .int .u8 0, .int .u8 0, .int .u8 0, .int .u8 0, .int .u8 0, .int .u8 0, .int .u8 0, .int .u8 0, .int .u8 0, .int .u8 0, .int .u8 0, .int .u8 0, .int .u8 0, .int .u8 0, .int .u8 0, .int .u8 0, .int .u8 0, .int .u8 0])) by kernel_rfl, .agg _⟩
instance : Sc Tryd.prog 59 := ⟨_, Tryd.underlying59, rfl, by kernel_rfl⟩
instance : ZeroT Tryd.prog 59 [.nilFunc] := ⟨.nilFunc, by kernel_rfl, .one rfl⟩
instance : Sc Tryd.prog 60 := ⟨_, Tryd.underlying60, rfl, by kernel_rfl⟩
instance : ZeroT Tryd.prog 60 [.nilFunc] := ⟨.nilFunc, by kernel_rfl, .one rfl⟩
instance : Sc Tryd.prog 61 := ⟨_, Tryd.underlying61, rfl, by kernel_rfl⟩
instance : ZeroT Tryd.prog 61 [.slice none 0 0] := ⟨.slice none 0 0, by kernel_rfl, .one rfl⟩
instance : SliceT Tryd.prog 61 5 1 1 := ⟨Tryd.underlying61, by decide, by decide, .int .u8 0, by kernel_rfl, by kernel_rfl⟩
instance : Sc Tryd.prog 62 := ⟨_, Tryd.underlying62, rfl, by kernel_rfl⟩
instance : ZeroT Tryd.prog 62 [.nilFunc] := ⟨.nilFunc, by kernel_rfl, .one rfl⟩
instance : Sc Tryd.prog 63 := ⟨_, Tryd.underlying63, rfl, by kernel_rfl⟩
instance : ZeroT Tryd.prog 63 [.nilFunc] := ⟨.nilFunc, by kernel_rfl, .one rfl⟩
instance : Sc Tryd.prog 65 := ⟨_, Tryd.underlying65, rfl, by kernel_rfl⟩
instance : ZeroT Tryd.prog 65 [.nilFunc] := ⟨.nilFunc, by kernel_rfl, .one rfl⟩
instance : Sc Tryd.prog 67 := ⟨_, Tryd.underlying67, rfl, by kernel_rfl⟩
instance : ZeroT Tryd.prog 67 [.nilFunc] := ⟨.nilFunc, by kernel_rfl, .one rfl⟩
instance : Sc Tryd.prog 68 := ⟨_, Tryd.underlying68, rfl, by kernel_rfl⟩
instance : ZeroT Tryd.prog 68 [.nilFunc] := ⟨.nilFunc, by kernel_rfl, .one rfl⟩
instance : Sc Tryd.prog 69 := ⟨_, Tryd.underlying69, rfl, by kernel_rfl⟩
instance : ZeroT Tryd.prog 69 [.nilFunc] := ⟨.nilFunc, by kernel_rfl, .one rfl⟩
instance : Sc Tryd.prog 70 := ⟨_, Tryd.underlying70, rfl, by kernel_rfl⟩
instance : ZeroT Tryd.prog 70 [.nilFunc] := ⟨.nilFunc, by kernel_rfl, .one rfl⟩
instance : Sc Tryd.prog 71 := ⟨_, Tryd.underlying71, rfl, by kernel_rfl⟩
instance : ZeroT Tryd.prog 71 [.nilFunc] := ⟨.nilFunc, by kernel_rfl, .one rfl⟩
instance : Sc Tryd.prog 73 := ⟨_, Tryd.underlying73, rfl, by kernel_rfl⟩
instance : ZeroT Tryd.prog 73 [.nilFunc] := ⟨.nilFunc, by kernel_rfl, .one rfl⟩
instance : Sc Tryd.prog 74 := ⟨_, Tryd.underlying74, rfl, by kernel_rfl⟩
instance : ZeroT Tryd.prog 74 [.nilFunc] := ⟨.nilFunc, by kernel_rfl, .one rfl⟩
instance : Sc Tryd.prog 75 := ⟨_, Tryd.underlying75, rfl, by kernel_rfl⟩
instance : ZeroT Tryd.prog 75 [.nilFunc] := ⟨.nilFunc, by kernel_rfl, .one rfl⟩
instance : Ag Tryd.prog 76 256 := ⟨_, Tryd.underlying76, rfl, by kernel_rfl⟩
instance : ArrT Tryd.prog 76 256 4 1 := ⟨Tryd.underlying76, by kernel_rfl⟩
instance : Ag Tryd.prog 77 256 := ⟨_, Tryd.underlying77, rfl, by kernel_rfl⟩
instance : ArrT Tryd.prog 77 256 4 1 := ⟨Tryd.underlying77, by kernel_rfl⟩
instance : Sc Tryd.prog 79 := ⟨_, Tryd.underlying79, rfl, by kernel_rfl⟩
instance : ZeroT Tryd.prog 79 [.nilFunc] := ⟨.nilFunc, by kernel_rfl, .one rfl⟩
instance : Sc Tryd.prog 80 := ⟨_, Tryd.underlying80, rfl, by kernel_rfl⟩
instance : ZeroT Tryd.prog 80 [.nilFunc] := ⟨.nilFunc, by kernel_rfl, .one rfl⟩
instance : Sc Tryd.prog 81 := ⟨_, Tryd.underlying81, rfl, by kernel_rfl⟩
instance : ZeroT Tryd.prog 81 [.pointer none] := ⟨.pointer none, by kernel_rfl, .one rfl⟩
instance : Sc Tryd.prog 83 := ⟨_, Tryd.underlying83, rfl, by kernel_rfl⟩
instance : ZeroT Tryd.prog 83 [.nilFunc] := ⟨.nilFunc, by kernel_rfl, .one rfl⟩
instance : Sc Tryd.prog 84 := ⟨_, Tryd.underlying84, rfl, by kernel_rfl⟩
instance : ZeroT Tryd.prog 84 [.nilFunc] := ⟨.nilFunc, by kernel_rfl, .one rfl⟩
instance : Sc Tryd.prog 85 := ⟨_, Tryd.underlying85, rfl, by kernel_rfl⟩
instance : ZeroT Tryd.prog 85 [.nilFunc] := ⟨.nilFunc, by kernel_rfl, .one rfl⟩
instance : Sc Tryd.prog 86 := ⟨_, Tryd.underlying86, rfl, by kernel_rfl⟩
instance : ZeroT Tryd.prog 86 [.nilFunc] := ⟨.nilFunc, by kernel_rfl, .one rfl⟩
instance : Sc Tryd.prog 87 := ⟨_, Tryd.underlying87, rfl, by kernel_rfl⟩
instance : ZeroT Tryd.prog 87 [.nilFunc] := ⟨.nilFunc, by kernel_rfl, .one rfl⟩
instance : Sc Tryd.prog 88 := ⟨_, Tryd.underlying88, rfl, by kernel_rfl⟩
instance : ZeroT Tryd.prog 88 [.nilFunc] := ⟨.nilFunc, by kernel_rfl, .one rfl⟩
instance : Sc Tryd.prog 89 := ⟨_, Tryd.underlying89, rfl, by kernel_rfl⟩
instance : ZeroT Tryd.prog 89 [.nilFunc] := ⟨.nilFunc, by kernel_rfl, .one rfl⟩
instance : Sc Tryd.prog 90 := ⟨_, Tryd.underlying90, rfl, by kernel_rfl⟩
instance : ZeroT Tryd.prog 90 [.nilFunc] := ⟨.nilFunc, by kernel_rfl, .one rfl⟩
instance : Sc Tryd.prog 91 := ⟨_, Tryd.underlying91, rfl, by kernel_rfl⟩
instance : ZeroT Tryd.prog 91 [.nilFunc] := ⟨.nilFunc, by kernel_rfl, .one rfl⟩
instance : Sc Tryd.prog 92 := ⟨_, Tryd.underlying92, rfl, by kernel_rfl⟩
instance : ZeroT Tryd.prog 92 [.nilFunc] := ⟨.nilFunc, by kernel_rfl, .one rfl⟩
instance : Ag Tryd.prog 93 256 := ⟨_, Tryd.underlying93, rfl, by kernel_rfl⟩
instance : ArrT Tryd.prog 93 256 5 1 := ⟨Tryd.underlying93, by kernel_rfl⟩
instance : Sc Tryd.prog 94 := ⟨_, Tryd.underlying94, rfl, by kernel_rfl⟩
instance : ZeroT Tryd.prog 94 [.int .u64 0] := ⟨.int .u64 0, by kernel_rfl, .one rfl⟩
instance : IntT Tryd.prog 94 .u64 := ⟨Tryd.underlying94⟩
instance : Ag Tryd.prog 95 2 := ⟨_, Tryd.underlying95, rfl, by kernel_rfl⟩
instance : FieldAt Tryd.prog 95 0 0 := ⟨_, _, 0, Tryd.underlying95, rfl, rfl, by kernel_rfl⟩
instance : FieldAt Tryd.prog 95 1 1 := ⟨_, _, 0, Tryd.underlying95, rfl, rfl, by kernel_rfl⟩
instance : OffsT Tryd.prog 95 [(0, 1), (1, 1)] [.int .u8 0, .int .u8 0] := ⟨(([(0, 1), (1, 1)] : List (Nat × Nat)).toArray[·]?), fun _ => by kernel_rfl, fun i p h => by simpa using h⟩
instance : ZeroT Tryd.prog 95 [.int .u8 0, .int .u8 0] := ⟨_, show still Tryd.prog (zeroValue 95) = some (.agg (List.toArray [.int .u8 0, .int .u8 0])) by kernel_rfl, .agg _⟩
instance : Ag Tryd.prog 96 2 := ⟨_, Tryd.underlying96, rfl, by kernel_rfl⟩
instance : FieldAt Tryd.prog 96 0 0 := ⟨_, _, 0, Tryd.underlying96, rfl, rfl, by kernel_rfl⟩
instance : FieldAt Tryd.prog 96 1 1 := ⟨_, _, 0, Tryd.underlying96, rfl, rfl, by kernel_rfl⟩
instance : OffsT Tryd.prog 96 [(0, 1), (1, 1)] [.int .u8 0, .int .u8 0] := ⟨(([(0, 1), (1, 1)] : List (Nat × Nat)).toArray[·]?), fun _ => by kernel_rfl, fun i p h => by simpa using h⟩
instance : ZeroT Tryd.prog 96 [.int .u8 0, .int .u8 0] := ⟨_, show still Tryd.prog (zeroValue 96) = some (.agg (List.toArray [.int .u8 0, .int .u8 0])) by kernel_rfl, .agg _⟩
instance : Ag Tryd.prog 97 32 := ⟨_, Tryd.underlying97, rfl, by kernel_rfl⟩
instance : ArrT Tryd.prog 97 16 96 2 := ⟨Tryd.underlying97, by kernel_rfl⟩
instance : OffsT Tryd.prog 97 (arrOffs 16 2) [.int .u8 0, .int .u8 0, .int .u8 0, .int .u8 0, .int .u8 0, .int .u8 0, .int .u8 0, .int .u8 0, .int .u8 0, .int .u8 0, .int .u8 0, .int .u8 0, .int .u8 0, .int .u8 0, .int .u8 0, .int .u8 0, .int .u8 0, .int .u8 0, .int .u8 0, .int .u8 0, .int .u8 0, .int .u8 0, .int .u8 0, .int .u8 0, .int .u8 0, .int .u8 0, .int .u8 0, .int .u8 0, .int .u8 0, .int .u8 0, .int .u8 0, .int .u8 0] := ⟨fun i => some (i * 2, 2), fun _ => by kernel_rfl, arrOffs_at 16 2⟩
instance : ZeroT Tryd.prog 97 [.int .u8 0, .int .u8 0, .int .u8 0, .int .u8 0, .int .u8 0, .int .u8 0, .int .u8 0, .int .u8 0, .int .u8 0, .int .u8 0, .int .u8 0, .int .u8 0, .int .u8 0, .int .u8 0, .int .u8 0, .int .u8 0, .int .u8 0, .int .u8 0, .int .u8 0, .int .u8 0, .int .u8 0, .int .u8 0, .int .u8 0, .int .u8 0, .int .u8 0, .int .u8 0, .int .u8 0, .int .u8 0, .int .u8 0, .int .u8 0, .int .u8 0, .int .u8 0] := ⟨_, show still Tryd.prog (zeroValue 97) = some (.agg (List.toArray [.int .u8 0, .int .u8 0, .int .u8 0, .int .u8 0, .int .u8 0, .int .u8 0, .int .u8 0, .int .u8 0, .int .u8 0, .int .u8 0, .int .u8 0, .int .u8 0, .int .u8 0, .int .u8 0, .int .u8 0, .int .u8 0, .int .u8 0, .int .u8 0, .int .u8 0, .int .u8 0, .int .u8 0, .int .u8 0, .int .u8 0, .int .u8 0, .int .u8 0, .int .u8 0, .int .u8 0, .int .u8 0, .int .u8 0, .int .u8 0, .int .u8 0, .int .u8 0])) by kernel_rfl, .agg _⟩
instance : Sc Tryd.prog 99 := ⟨_, Tryd.underlying99, rfl, by kernel_rfl⟩
instance : ZeroT Tryd.prog 99 [.nilFunc] := ⟨.nilFunc, by kernel_rfl, .one rfl⟩
instance : Sc Tryd.prog 100 := ⟨_, Tryd.underlying100, rfl, by kernel_rfl⟩
instance : ZeroT Tryd.prog 100 [.pointer none] := ⟨.pointer none, by kernel_rfl, .one rfl⟩
instance : Ag Tryd.prog 101 2 := ⟨_, Tryd.underlying101, rfl, by kernel_rfl⟩
instance : FieldAt Tryd.prog 101 0 0 := ⟨_, _, 0, Tryd.underlying101, rfl, rfl, by kernel_rfl⟩
instance : FieldAt Tryd.prog 101 1 1 := ⟨_, _, 0, Tryd.underlying101, rfl, rfl, by kernel_rfl⟩
instance : OffsT Tryd.prog 101 [(0, 1), (1, 1)] [.pointer none, .slice none 0 0] := ⟨(([(0, 1), (1, 1)] : List (Nat × Nat)).toArray[·]?), fun _ => by kernel_rfl, fun i p h => by simpa using h⟩
instance : ZeroT Tryd.prog 101 [.pointer none, .slice none 0 0] := ⟨_, show still Tryd.prog (zeroValue 101) = some (.agg (List.toArray [.pointer none, .slice none 0 0])) by kernel_rfl, .agg _⟩
instance : Ag Tryd.prog 102 2 := ⟨_, Tryd.underlying102, rfl, by kernel_rfl⟩
instance : FieldAt Tryd.prog 102 0 0 := ⟨_, _, 0, Tryd.underlying102, rfl, rfl, by kernel_rfl⟩
instance : FieldAt Tryd.prog 102 1 1 := ⟨_, _, 0, Tryd.underlying102, rfl, rfl, by kernel_rfl⟩
instance : OffsT Tryd.prog 102 [(0, 1), (1, 1)] [.pointer none, .slice none 0 0] := ⟨(([(0, 1), (1, 1)] : List (Nat × Nat)).toArray[·]?), fun _ => by kernel_rfl, fun i p h => by simpa using h⟩
instance : ZeroT Tryd.prog 102 [.pointer none, .slice none 0 0] := ⟨_, show still Tryd.prog (zeroValue 102) = some (.agg (List.toArray [.pointer none, .slice none 0 0])) by kernel_rfl, .agg _⟩
instance : Sc Tryd.prog 103 := ⟨_, Tryd.underlying103, rfl, by kernel_rfl⟩
instance : ZeroT Tryd.prog 103 [.nilFunc] := ⟨.nilFunc, by kernel_rfl, .one rfl⟩
instance : Sc Tryd.prog 104 := ⟨_, Tryd.underlying104, rfl, by kernel_rfl⟩
instance : ZeroT Tryd.prog 104 [.nilIface] := ⟨.nilIface, by kernel_rfl, .one rfl⟩
instance : Sc Tryd.prog 105 := ⟨_, Tryd.underlying105, rfl, by kernel_rfl⟩
instance : ZeroT Tryd.prog 105 [.nilIface] := ⟨.nilIface, by kernel_rfl, .one rfl⟩
instance : Sc Tryd.prog 107 := ⟨_, Tryd.underlying107, rfl, by kernel_rfl⟩
instance : ZeroT Tryd.prog 107 [.nilFunc] := ⟨.nilFunc, by kernel_rfl, .one rfl⟩
instance : Sc Tryd.prog 108 := ⟨_, Tryd.underlying108, rfl, by kernel_rfl⟩
instance : ZeroT Tryd.prog 108 [.nilFunc] := ⟨.nilFunc, by kernel_rfl, .one rfl⟩
instance : Sc Tryd.prog 109 := ⟨_, Tryd.underlying109, rfl, by kernel_rfl⟩
instance : ZeroT Tryd.prog 109 [.nilFunc] := ⟨.nilFunc, by kernel_rfl, .one rfl⟩
instance : Sc Tryd.prog 110 := ⟨_, Tryd.underlying110, rfl, by kernel_rfl⟩
instance : ZeroT Tryd.prog 110 [.nilFunc] := ⟨.nilFunc, by kernel_rfl, .one rfl⟩
instance : Sc Tryd.prog 111 := ⟨_, Tryd.underlying111, rfl, by kernel_rfl⟩
instance : ZeroT Tryd.prog 111 [.nilFunc] := ⟨.nilFunc, by kernel_rfl, .one rfl⟩
instance : Sc Tryd.prog 112 := ⟨_, Tryd.underlying112, rfl, by kernel_rfl⟩
instance : ZeroT Tryd.prog 112 [.nilFunc] := ⟨.nilFunc, by kernel_rfl, .one rfl⟩
instance : Sc Tryd.prog 113 := ⟨_, Tryd.underlying113, rfl, by kernel_rfl⟩
instance : ZeroT Tryd.prog 113 [.nilFunc] := ⟨.nilFunc, by kernel_rfl, .one rfl⟩
instance : Sc Tryd.prog 114 := ⟨_, Tryd.underlying114, rfl, by kernel_rfl⟩
instance : ZeroT Tryd.prog 114 [.int .u32 0] := ⟨.int .u32 0, by kernel_rfl, .one rfl⟩
instance : IntT Tryd.prog 114 .u32 := ⟨Tryd.underlying114⟩
instance : Sc Tryd.prog 116 := ⟨_, Tryd.underlying116, rfl, by kernel_rfl⟩
instance : ZeroT Tryd.prog 116 [.nilFunc] := ⟨.nilFunc, by kernel_rfl, .one rfl⟩
instance : Sc Tryd.prog 118 := ⟨_, Tryd.underlying118, rfl, by kernel_rfl⟩
instance : ZeroT Tryd.prog 118 [.nilFunc] := ⟨.nilFunc, by kernel_rfl, .one rfl⟩
instance : Sc Tryd.prog 119 := ⟨_, Tryd.underlying119, rfl, by kernel_rfl⟩
instance : ZeroT Tryd.prog 119 [.pointer none] := ⟨.pointer none, by kernel_rfl, .one rfl⟩
instance : Sc Tryd.prog 120 := ⟨_, Tryd.underlying120, rfl, by kernel_rfl⟩
instance : ZeroT Tryd.prog 120 [.nilFunc] := ⟨.nilFunc, by kernel_rfl, .one rfl⟩
instance : Sc Tryd.prog 121 := ⟨_, Tryd.underlying121, rfl, by kernel_rfl⟩
instance : ZeroT Tryd.prog 121 [.nilFunc] := ⟨.nilFunc, by kernel_rfl, .one rfl⟩
instance : Sc Tryd.prog 122 := ⟨_, Tryd.underlying122, rfl, by kernel_rfl⟩
instance : ZeroT Tryd.prog 122 [.nilFunc] := ⟨.nilFunc, by kernel_rfl, .one rfl⟩
instance : Sc Tryd.prog 123 := ⟨_, Tryd.underlying123, rfl, by kernel_rfl⟩
-- type 123: ('unsafePointer',)
instance : Sc Tryd.prog 124 := ⟨_, Tryd.underlying124, rfl, by kernel_rfl⟩
instance : ZeroT Tryd.prog 124 [.nilFunc] := ⟨.nilFunc, by kernel_rfl, .one rfl⟩
instance : Sc Tryd.prog 125 := ⟨_, Tryd.underlying125, rfl, by kernel_rfl⟩
instance : ZeroT Tryd.prog 125 [.nilFunc] := ⟨.nilFunc, by kernel_rfl, .one rfl⟩
instance : Sc Tryd.prog 126 := ⟨_, Tryd.underlying126, rfl, by kernel_rfl⟩
instance : ZeroT Tryd.prog 126 [.nilFunc] := ⟨.nilFunc, by kernel_rfl, .one rfl⟩
instance : Ag Tryd.prog 127 4 := ⟨_, Tryd.underlying127, rfl, by kernel_rfl⟩
instance : FieldAt Tryd.prog 127 0 0 := ⟨_, _, 0, Tryd.underlying127, rfl, rfl, by kernel_rfl⟩
instance : FieldAt Tryd.prog 127 1 1 := ⟨_, _, 0, Tryd.underlying127, rfl, rfl, by kernel_rfl⟩
instance : FieldAt Tryd.prog 127 2 2 := ⟨_, _, 0, Tryd.underlying127, rfl, rfl, by kernel_rfl⟩
instance : FieldAt Tryd.prog 127 3 3 := ⟨_, _, 0, Tryd.underlying127, rfl, rfl, by kernel_rfl⟩
instance : OffsT Tryd.prog 127 [(0, 1), (1, 1), (2, 1), (3, 1)] [.pointer none, .pointer none, .pointer none, .string .empty] := ⟨(([(0, 1), (1, 1), (2, 1), (3, 1)] : List (Nat × Nat)).toArray[·]?), fun _ => by kernel_rfl, fun i p h => by simpa using h⟩
instance : ZeroT Tryd.prog 127 [.pointer none, .pointer none, .pointer none, .string .empty] := ⟨_, show still Tryd.prog (zeroValue 127) = some (.agg (List.toArray [.pointer none, .pointer none, .pointer none, .string .empty])) by kernel_rfl, .agg _⟩
instance : Ag Tryd.prog 128 4 := ⟨_, Tryd.underlying128, rfl, by kernel_rfl⟩
instance : FieldAt Tryd.prog 128 0 0 := ⟨_, _, 0, Tryd.underlying128, rfl, rfl, by kernel_rfl⟩
instance : FieldAt Tryd.prog 128 1 1 := ⟨_, _, 0, Tryd.underlying128, rfl, rfl, by kernel_rfl⟩
instance : FieldAt Tryd.prog 128 2 2 := ⟨_, _, 0, Tryd.underlying128, rfl, rfl, by kernel_rfl⟩
instance : FieldAt Tryd.prog 128 3 3 := ⟨_, _, 0, Tryd.underlying128, rfl, rfl, by kernel_rfl⟩
instance : OffsT Tryd.prog 128 [(0, 1), (1, 1), (2, 1), (3, 1)] [.pointer none, .pointer none, .pointer none, .string .empty] := ⟨(([(0, 1), (1, 1), (2, 1), (3, 1)] : List (Nat × Nat)).toArray[·]?), fun _ => by kernel_rfl, fun i p h => by simpa using h⟩
instance : ZeroT Tryd.prog 128 [.pointer none, .pointer none, .pointer none, .string .empty] := ⟨_, show still Tryd.prog (zeroValue 128) = some (.agg (List.toArray [.pointer none, .pointer none, .pointer none, .string .empty])) by kernel_rfl, .agg _⟩
instance : Sc Tryd.prog 132 := ⟨_, Tryd.underlying132, rfl, by kernel_rfl⟩
instance : ZeroT Tryd.prog 132 [.int .u8 0] := ⟨.int .u8 0, by kernel_rfl, .one rfl⟩
instance : IntT Tryd.prog 132 .u8 := ⟨Tryd.underlying132⟩
instance : Sc Tryd.prog 133 := ⟨_, Tryd.underlying133, rfl, by kernel_rfl⟩
instance : ZeroT Tryd.prog 133 [.int .u8 0] := ⟨.int .u8 0, by kernel_rfl, .one rfl⟩
instance : IntT Tryd.prog 133 .u8 := ⟨Tryd.underlying133⟩
instance : Sc Tryd.prog 134 := ⟨_, Tryd.underlying134, rfl, by kernel_rfl⟩
instance : ZeroT Tryd.prog 134 [.nilFunc] := ⟨.nilFunc, by kernel_rfl, .one rfl⟩
instance : Sc Tryd.prog 135 := ⟨_, Tryd.underlying135, rfl, by kernel_rfl⟩
instance : ZeroT Tryd.prog 135 [.int .i32 0] := ⟨.int .i32 0, by kernel_rfl, .one rfl⟩
instance : IntT Tryd.prog 135 .i32 := ⟨Tryd.underlying135⟩
instance : Sc Tryd.prog 136 := ⟨_, Tryd.underlying136, rfl, by kernel_rfl⟩
instance : ZeroT Tryd.prog 136 [.int .i32 0] := ⟨.int .i32 0, by kernel_rfl, .one rfl⟩
instance : IntT Tryd.prog 136 .i32 := ⟨Tryd.underlying136⟩
instance : Ag Tryd.prog 137 11 := ⟨_, Tryd.underlying137, rfl, by kernel_rfl⟩
instance : FieldAt Tryd.prog 137 0 0 := ⟨_, _, 0, Tryd.underlying137, rfl, rfl, by kernel_rfl⟩
instance : FieldAt Tryd.prog 137 1 1 := ⟨_, _, 0, Tryd.underlying137, rfl, rfl, by kernel_rfl⟩
instance : FieldAt Tryd.prog 137 2 2 := ⟨_, _, 0, Tryd.underlying137, rfl, rfl, by kernel_rfl⟩
instance : FieldAt Tryd.prog 137 3 3 := ⟨_, _, 0, Tryd.underlying137, rfl, rfl, by kernel_rfl⟩
instance : FieldAt Tryd.prog 137 4 4 := ⟨_, _, 0, Tryd.underlying137, rfl, rfl, by kernel_rfl⟩
instance : FieldAt Tryd.prog 137 5 5 := ⟨_, _, 0, Tryd.underlying137, rfl, rfl, by kernel_rfl⟩
instance : FieldAt Tryd.prog 137 6 6 := ⟨_, _, 0, Tryd.underlying137, rfl, rfl, by kernel_rfl⟩
instance : FieldAt Tryd.prog 137 7 7 := ⟨_, _, 0, Tryd.underlying137, rfl, rfl, by kernel_rfl⟩
instance : FieldAt Tryd.prog 137 8 8 := ⟨_, _, 0, Tryd.underlying137, rfl, rfl, by kernel_rfl⟩
instance : FieldAt Tryd.prog 137 9 9 := ⟨_, _, 0, Tryd.underlying137, rfl, rfl, by kernel_rfl⟩
instance : FieldAt Tryd.prog 137 10 10 := ⟨_, _, 0, Tryd.underlying137, rfl, rfl, by kernel_rfl⟩
instance : OffsT Tryd.prog 137 [(0, 1), (1, 1), (2, 1), (3, 1), (4, 1), (5, 1), (6, 1), (7, 1), (8, 1), (9, 1), (10, 1)] [.int .u64 0, .int .u64 0, .int .u32 0, .int .u8 0, .int .u8 0, .int .u8 0, .int .u8 0, .nilFunc, .pointer none, .int .i32 0, .int .i32 0] := ⟨(([(0, 1), (1, 1), (2, 1), (3, 1), (4, 1), (5, 1), (6, 1), (7, 1), (8, 1), (9, 1), (10, 1)] : List (Nat × Nat)).toArray[·]?), fun _ => by kernel_rfl, fun i p h => by simpa using h⟩
instance : ZeroT Tryd.prog 137 [.int .u64 0, .int .u64 0, .int .u32 0, .int .u8 0, .int .u8 0, .int .u8 0, .int .u8 0, .nilFunc, .pointer none, .int .i32 0, .int .i32 0] := ⟨_, show still Tryd.prog (zeroValue 137) = some (.agg (List.toArray [.int .u64 0, .int .u64 0, .int .u32 0, .int .u8 0, .int .u8 0, .int .u8 0, .int .u8 0, .nilFunc, .pointer none, .int .i32 0, .int .i32 0])) by kernel_rfl, .agg _⟩
instance : Ag Tryd.prog 138 11 := ⟨_, Tryd.underlying138, rfl, by kernel_rfl⟩
instance : FieldAt Tryd.prog 138 0 0 := ⟨_, _, 0, Tryd.underlying138, rfl, rfl, by kernel_rfl⟩
instance : FieldAt Tryd.prog 138 1 1 := ⟨_, _, 0, Tryd.underlying138, rfl, rfl, by kernel_rfl⟩
instance : FieldAt Tryd.prog 138 2 2 := ⟨_, _, 0, Tryd.underlying138, rfl, rfl, by kernel_rfl⟩
instance : FieldAt Tryd.prog 138 3 3 := ⟨_, _, 0, Tryd.underlying138, rfl, rfl, by kernel_rfl⟩
instance : FieldAt Tryd.prog 138 4 4 := ⟨_, _, 0, Tryd.underlying138, rfl, rfl, by kernel_rfl⟩
instance : FieldAt Tryd.prog 138 5 5 := ⟨_, _, 0, Tryd.underlying138, rfl, rfl, by kernel_rfl⟩
instance : FieldAt Tryd.prog 138 6 6 := ⟨_, _, 0, Tryd.underlying138, rfl, rfl, by kernel_rfl⟩
instance : FieldAt Tryd.prog 138 7 7 := ⟨_, _, 0, Tryd.underlying138, rfl, rfl, by kernel_rfl⟩
instance : FieldAt Tryd.prog 138 8 8 := ⟨_, _, 0, Tryd.underlying138, rfl, rfl, by kernel_rfl⟩
instance : FieldAt Tryd.prog 138 9 9 := ⟨_, _, 0, Tryd.underlying138, rfl, rfl, by kernel_rfl⟩
instance : FieldAt Tryd.prog 138 10 10 := ⟨_, _, 0, Tryd.underlying138, rfl, rfl, by kernel_rfl⟩
instance : OffsT Tryd.prog 138 [(0, 1), (1, 1), (2, 1), (3, 1), (4, 1), (5, 1), (6, 1), (7, 1), (8, 1), (9, 1), (10, 1)] [.int .u64 0, .int .u64 0, .int .u32 0, .int .u8 0, .int .u8 0, .int .u8 0, .int .u8 0, .nilFunc, .pointer none, .int .i32 0, .int .i32 0] := ⟨(([(0, 1), (1, 1), (2, 1), (3, 1), (4, 1), (5, 1), (6, 1), (7, 1), (8, 1), (9, 1), (10, 1)] : List (Nat × Nat)).toArray[·]?), fun _ => by kernel_rfl, fun i p h => by simpa using h⟩
instance : ZeroT Tryd.prog 138 [.int .u64 0, .int .u64 0, .int .u32 0, .int .u8 0, .int .u8 0, .int .u8 0, .int .u8 0, .nilFunc, .pointer none, .int .i32 0, .int .i32 0] := ⟨_, show still Tryd.prog (zeroValue 138) = some (.agg (List.toArray [.int .u64 0, .int .u64 0, .int .u32 0, .int .u8 0, .int .u8 0, .int .u8 0, .int .u8 0, .nilFunc, .pointer none, .int .i32 0, .int .i32 0])) by kernel_rfl, .agg _⟩
end Go.Proofs.YtgcnfcgnkfkpeaaDoor
