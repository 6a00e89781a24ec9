/- What the types of this program are. -/
import Derived.Test.YthllelffblpdkaaDoorSxB
import Derived.Test.YthllelffblpdkaaDoorRows
namespace Go.Proofs.YthllelffblpdkaaDoor
open Go Go.RowKit Go.Fw Go.Sx
set_option maxRecDepth 100000
instance : Wide Tryd.prog := ⟨by kernel_rfl⟩
instance : Sc Tryd.prog 1 := ⟨_, Tryd.underlying1, rfl, by kernel_rfl⟩
instance : ZeroT Tryd.prog 1 [.nilFunc] := ⟨.nilFunc, by kernel_rfl, .one rfl⟩
instance : Sc Tryd.prog 2 := ⟨_, Tryd.underlying2, rfl, by kernel_rfl⟩
instance : ZeroT Tryd.prog 2 [.int .i64 0] := ⟨.int .i64 0, by kernel_rfl, .one rfl⟩
instance : IntT Tryd.prog 2 .i64 := ⟨Tryd.underlying2⟩
instance : Sc Tryd.prog 3 := ⟨_, Tryd.underlying3, rfl, by kernel_rfl⟩
instance : ZeroT Tryd.prog 3 [.int .i64 0] := ⟨.int .i64 0, by kernel_rfl, .one rfl⟩
instance : IntT Tryd.prog 3 .i64 := ⟨Tryd.underlying3⟩
instance : Sc Tryd.prog 4 := ⟨_, Tryd.underlying4, rfl, by kernel_rfl⟩
instance : ZeroT Tryd.prog 4 [.bool false] := ⟨.bool false, by kernel_rfl, .one rfl⟩
instance : Sc Tryd.prog 5 := ⟨_, Tryd.underlying5, rfl, by kernel_rfl⟩
instance : ZeroT Tryd.prog 5 [.int .u8 0] := ⟨.int .u8 0, by kernel_rfl, .one rfl⟩
instance : IntT Tryd.prog 5 .u8 := ⟨Tryd.underlying5⟩
instance : Sc Tryd.prog 6 := ⟨_, Tryd.underlying6, rfl, by kernel_rfl⟩
instance : ZeroT Tryd.prog 6 [.int .u8 0] := ⟨.int .u8 0, by kernel_rfl, .one rfl⟩
instance : IntT Tryd.prog 6 .u8 := ⟨Tryd.underlying6⟩
instance : Ag Tryd.prog 7 4 := ⟨_, Tryd.underlying7, rfl, by kernel_rfl⟩
instance : FieldAt Tryd.prog 7 0 0 := ⟨_, _, 0, Tryd.underlying7, rfl, rfl, by kernel_rfl⟩
instance : FieldAt Tryd.prog 7 1 1 := ⟨_, _, 0, Tryd.underlying7, rfl, rfl, by kernel_rfl⟩
instance : FieldAt Tryd.prog 7 2 2 := ⟨_, _, 0, Tryd.underlying7, rfl, rfl, by kernel_rfl⟩
instance : FieldAt Tryd.prog 7 3 3 := ⟨_, _, 0, Tryd.underlying7, rfl, rfl, by kernel_rfl⟩
instance : OffsT Tryd.prog 7 [(0, 1), (1, 1), (2, 1), (3, 1)] [.int .i64 0, .int .i64 0, .bool false, .int .u8 0] := ⟨(([(0, 1), (1, 1), (2, 1), (3, 1)] : List (Nat × Nat)).toArray[·]?), fun _ => by kernel_rfl, fun i p h => by simpa using h⟩
instance : ZeroT Tryd.prog 7 [.int .i64 0, .int .i64 0, .bool false, .int .u8 0] := ⟨_, show still Tryd.prog (zeroValue 7) = some (.agg (List.toArray [.int .i64 0, .int .i64 0, .bool false, .int .u8 0])) by kernel_rfl, .agg _⟩
instance : Ag Tryd.prog 8 4 := ⟨_, Tryd.underlying8, rfl, by kernel_rfl⟩
instance : FieldAt Tryd.prog 8 0 0 := ⟨_, _, 0, Tryd.underlying8, rfl, rfl, by kernel_rfl⟩
instance : FieldAt Tryd.prog 8 1 1 := ⟨_, _, 0, Tryd.underlying8, rfl, rfl, by kernel_rfl⟩
instance : FieldAt Tryd.prog 8 2 2 := ⟨_, _, 0, Tryd.underlying8, rfl, rfl, by kernel_rfl⟩
instance : FieldAt Tryd.prog 8 3 3 := ⟨_, _, 0, Tryd.underlying8, rfl, rfl, by kernel_rfl⟩
instance : OffsT Tryd.prog 8 [(0, 1), (1, 1), (2, 1), (3, 1)] [.int .i64 0, .int .i64 0, .bool false, .int .u8 0] := ⟨(([(0, 1), (1, 1), (2, 1), (3, 1)] : List (Nat × Nat)).toArray[·]?), fun _ => by kernel_rfl, fun i p h => by simpa using h⟩
instance : ZeroT Tryd.prog 8 [.int .i64 0, .int .i64 0, .bool false, .int .u8 0] := ⟨_, show still Tryd.prog (zeroValue 8) = some (.agg (List.toArray [.int .i64 0, .int .i64 0, .bool false, .int .u8 0])) by kernel_rfl, .agg _⟩
instance : Sc Tryd.prog 9 := ⟨_, Tryd.underlying9, rfl, by kernel_rfl⟩
instance : ZeroT Tryd.prog 9 [.string .empty] := ⟨.string .empty, by kernel_rfl, .one rfl⟩
instance : StrT Tryd.prog 9 := ⟨Tryd.underlying9⟩
instance : Sc Tryd.prog 10 := ⟨_, Tryd.underlying10, rfl, by kernel_rfl⟩
instance : ZeroT Tryd.prog 10 [.string .empty] := ⟨.string .empty, by kernel_rfl, .one rfl⟩
instance : StrT Tryd.prog 10 := ⟨Tryd.underlying10⟩
instance : Sc Tryd.prog 11 := ⟨_, Tryd.underlying11, rfl, by kernel_rfl⟩
instance : ZeroT Tryd.prog 11 [.string .empty] := ⟨.string .empty, by kernel_rfl, .one rfl⟩
instance : StrT Tryd.prog 11 := ⟨Tryd.underlying11⟩
instance : Sc Tryd.prog 12 := ⟨_, Tryd.underlying12, rfl, by kernel_rfl⟩
instance : ZeroT Tryd.prog 12 [.int .u64 0] := ⟨.int .u64 0, by kernel_rfl, .one rfl⟩
instance : IntT Tryd.prog 12 .u64 := ⟨Tryd.underlying12⟩
instance : Ag Tryd.prog 13 2 := ⟨_, Tryd.underlying13, rfl, by kernel_rfl⟩
instance : FieldAt Tryd.prog 13 0 0 := ⟨_, _, 0, Tryd.underlying13, rfl, rfl, by kernel_rfl⟩
instance : FieldAt Tryd.prog 13 1 1 := ⟨_, _, 0, Tryd.underlying13, rfl, rfl, by kernel_rfl⟩
instance : OffsT Tryd.prog 13 [(0, 1), (1, 1)] [.string .empty, .int .u64 0] := ⟨(([(0, 1), (1, 1)] : List (Nat × Nat)).toArray[·]?), fun _ => by kernel_rfl, fun i p h => by simpa using h⟩
instance : ZeroT Tryd.prog 13 [.string .empty, .int .u64 0] := ⟨_, show still Tryd.prog (zeroValue 13) = some (.agg (List.toArray [.string .empty, .int .u64 0])) by kernel_rfl, .agg _⟩
instance : Ag Tryd.prog 14 2 := ⟨_, Tryd.underlying14, rfl, by kernel_rfl⟩
instance : FieldAt Tryd.prog 14 0 0 := ⟨_, _, 0, Tryd.underlying14, rfl, rfl, by kernel_rfl⟩
instance : FieldAt Tryd.prog 14 1 1 := ⟨_, _, 0, Tryd.underlying14, rfl, rfl, by kernel_rfl⟩
instance : OffsT Tryd.prog 14 [(0, 1), (1, 1)] [.string .empty, .int .u64 0] := ⟨(([(0, 1), (1, 1)] : List (Nat × Nat)).toArray[·]?), fun _ => by kernel_rfl, fun i p h => by simpa using h⟩
instance : ZeroT Tryd.prog 14 [.string .empty, .int .u64 0] := ⟨_, show still Tryd.prog (zeroValue 14) = some (.agg (List.toArray [.string .empty, .int .u64 0])) by kernel_rfl, .agg _⟩
instance : Sc Tryd.prog 15 := ⟨_, Tryd.underlying15, rfl, by kernel_rfl⟩
instance : ZeroT Tryd.prog 15 [.pointer none] := ⟨.pointer none, by kernel_rfl, .one rfl⟩
instance : Sc Tryd.prog 16 := ⟨_, Tryd.underlying16, rfl, by kernel_rfl⟩
instance : ZeroT Tryd.prog 16 [.pointer none] := ⟨.pointer none, by kernel_rfl, .one rfl⟩
instance : Sc Tryd.prog 17 := ⟨_, Tryd.underlying17, rfl, by kernel_rfl⟩
instance : ZeroT Tryd.prog 17 [.pointer none] := ⟨.pointer none, by kernel_rfl, .one rfl⟩
instance : Ag Tryd.prog 18 1 := ⟨_, Tryd.underlying18, rfl, by kernel_rfl⟩
instance : FieldAt Tryd.prog 18 0 0 := ⟨_, _, 0, Tryd.underlying18, rfl, rfl, by kernel_rfl⟩
instance : OffsT Tryd.prog 18 [(0, 1)] [.pointer none] := ⟨(([(0, 1)] : List (Nat × Nat)).toArray[·]?), fun _ => by kernel_rfl, fun i p h => by simpa using h⟩
instance : ZeroT Tryd.prog 18 [.pointer none] := ⟨_, show still Tryd.prog (zeroValue 18) = some (.agg (List.toArray [.pointer none])) by kernel_rfl, .agg _⟩
instance : Ag Tryd.prog 19 1 := ⟨_, Tryd.underlying19, rfl, by kernel_rfl⟩
instance : FieldAt Tryd.prog 19 0 0 := ⟨_, _, 0, Tryd.underlying19, rfl, rfl, by kernel_rfl⟩
instance : OffsT Tryd.prog 19 [(0, 1)] [.pointer none] := ⟨(([(0, 1)] : List (Nat × Nat)).toArray[·]?), fun _ => by kernel_rfl, fun i p h => by simpa using h⟩
instance : ZeroT Tryd.prog 19 [.pointer none] := ⟨_, show still Tryd.prog (zeroValue 19) = some (.agg (List.toArray [.pointer none])) by kernel_rfl, .agg _⟩
instance : Sc Tryd.prog 20 := ⟨_, Tryd.underlying20, rfl, by kernel_rfl⟩
instance : ZeroT Tryd.prog 20 [.nilIface] := ⟨.nilIface, by kernel_rfl, .one rfl⟩
instance : Sc Tryd.prog 21 := ⟨_, Tryd.underlying21, rfl, by kernel_rfl⟩
instance : ZeroT Tryd.prog 21 [.int .i32 0] := ⟨.int .i32 0, by kernel_rfl, .one rfl⟩
instance : IntT Tryd.prog 21 .i32 := ⟨Tryd.underlying21⟩
instance : Ag Tryd.prog 22 5 := ⟨_, Tryd.underlying22, rfl, by kernel_rfl⟩
instance : FieldAt Tryd.prog 22 0 0 := ⟨_, _, 0, Tryd.underlying22, rfl, rfl, by kernel_rfl⟩
instance : FieldAt Tryd.prog 22 1 1 := ⟨_, _, 0, Tryd.underlying22, rfl, rfl, by kernel_rfl⟩
instance : FieldAt Tryd.prog 22 2 2 := ⟨_, _, 0, Tryd.underlying22, rfl, rfl, by kernel_rfl⟩
instance : FieldAt Tryd.prog 22 3 3 := ⟨_, _, 0, Tryd.underlying22, rfl, rfl, by kernel_rfl⟩
instance : FieldAt Tryd.prog 22 4 4 := ⟨_, _, 0, Tryd.underlying22, rfl, rfl, by kernel_rfl⟩
instance : OffsT Tryd.prog 22 [(0, 1), (1, 1), (2, 1), (3, 1), (4, 1)] [.int .i64 0, .int .i64 0, .string .empty, .string .empty, .string .empty] := ⟨(([(0, 1), (1, 1), (2, 1), (3, 1), (4, 1)] : List (Nat × Nat)).toArray[·]?), fun _ => by kernel_rfl, fun i p h => by simpa using h⟩
instance : ZeroT Tryd.prog 22 [.int .i64 0, .int .i64 0, .string .empty, .string .empty, .string .empty] := ⟨_, show still Tryd.prog (zeroValue 22) = some (.agg (List.toArray [.int .i64 0, .int .i64 0, .string .empty, .string .empty, .string .empty])) by kernel_rfl, .agg _⟩
instance : Ag Tryd.prog 23 5 := ⟨_, Tryd.underlying23, rfl, by kernel_rfl⟩
instance : FieldAt Tryd.prog 23 0 0 := ⟨_, _, 0, Tryd.underlying23, rfl, rfl, by kernel_rfl⟩
instance : FieldAt Tryd.prog 23 1 1 := ⟨_, _, 0, Tryd.underlying23, rfl, rfl, by kernel_rfl⟩
instance : FieldAt Tryd.prog 23 2 2 := ⟨_, _, 0, Tryd.underlying23, rfl, rfl, by kernel_rfl⟩
instance : FieldAt Tryd.prog 23 3 3 := ⟨_, _, 0, Tryd.underlying23, rfl, rfl, by kernel_rfl⟩
instance : FieldAt Tryd.prog 23 4 4 := ⟨_, _, 0, Tryd.underlying23, rfl, rfl, by kernel_rfl⟩
instance : OffsT Tryd.prog 23 [(0, 1), (1, 1), (2, 1), (3, 1), (4, 1)] [.int .i64 0, .int .i64 0, .string .empty, .string .empty, .string .empty] := ⟨(([(0, 1), (1, 1), (2, 1), (3, 1), (4, 1)] : List (Nat × Nat)).toArray[·]?), fun _ => by kernel_rfl, fun i p h => by simpa using h⟩
instance : ZeroT Tryd.prog 23 [.int .i64 0, .int .i64 0, .string .empty, .string .empty, .string .empty] := ⟨_, show still Tryd.prog (zeroValue 23) = some (.agg (List.toArray [.int .i64 0, .int .i64 0, .string .empty, .string .empty, .string .empty])) by kernel_rfl, .agg _⟩
instance : Sc Tryd.prog 24 := ⟨_, Tryd.underlying24, rfl, by kernel_rfl⟩
instance : ZeroT Tryd.prog 24 [.slice none 0 0] := ⟨.slice none 0 0, by kernel_rfl, .one rfl⟩
instance : SliceT Tryd.prog 24 3 1 8 := ⟨Tryd.underlying24, by decide, by decide, .int .i64 0, by kernel_rfl, by kernel_rfl⟩
instance : Sc Tryd.prog 25 := ⟨_, Tryd.underlying25, rfl, by kernel_rfl⟩
instance : ZeroT Tryd.prog 25 [.slice none 0 0] := ⟨.slice none 0 0, by kernel_rfl, .one rfl⟩
instance : SliceT Tryd.prog 25 43 6 80 := ⟨Tryd.underlying25, by decide, by decide, .agg #[.int .i64 0, .int .i64 0, .int .i64 0, .string .empty, .slice none 0 0, .string .empty], by kernel_rfl, by kernel_rfl⟩
instance : Sc Tryd.prog 26 := ⟨_, Tryd.underlying26, rfl, by kernel_rfl⟩
instance : ZeroT Tryd.prog 26 [.int .i64 0] := ⟨.int .i64 0, by kernel_rfl, .one rfl⟩
instance : IntT Tryd.prog 26 .i64 := ⟨Tryd.underlying26⟩
instance : Sc Tryd.prog 28 := ⟨_, Tryd.underlying28, rfl, by kernel_rfl⟩
instance : ZeroT Tryd.prog 28 [.nilFunc] := ⟨.nilFunc, by kernel_rfl, .one rfl⟩
instance : Sc Tryd.prog 29 := ⟨_, Tryd.underlying29, rfl, by kernel_rfl⟩
instance : ZeroT Tryd.prog 29 [.nilFunc] := ⟨.nilFunc, by kernel_rfl, .one rfl⟩
instance : Sc Tryd.prog 31 := ⟨_, Tryd.underlying31, rfl, by kernel_rfl⟩
instance : ZeroT Tryd.prog 31 [.nilFunc] := ⟨.nilFunc, by kernel_rfl, .one rfl⟩
instance : Sc Tryd.prog 32 := ⟨_, Tryd.underlying32, rfl, by kernel_rfl⟩
instance : ZeroT Tryd.prog 32 [.nilFunc] := ⟨.nilFunc, by kernel_rfl, .one rfl⟩
instance : Sc Tryd.prog 33 := ⟨_, Tryd.underlying33, rfl, by kernel_rfl⟩
instance : ZeroT Tryd.prog 33 [.nilFunc] := ⟨.nilFunc, by kernel_rfl, .one rfl⟩
instance : Sc Tryd.prog 35 := ⟨_, Tryd.underlying35, rfl, by kernel_rfl⟩
instance : ZeroT Tryd.prog 35 [.nilFunc] := ⟨.nilFunc, by kernel_rfl, .one rfl⟩
instance : Sc Tryd.prog 37 := ⟨_, Tryd.underlying37, rfl, by kernel_rfl⟩
instance : ZeroT Tryd.prog 37 [.nilFunc] := ⟨.nilFunc, by kernel_rfl, .one rfl⟩
instance : Sc Tryd.prog 38 := ⟨_, Tryd.underlying38, rfl, by kernel_rfl⟩
instance : ZeroT Tryd.prog 38 [.nilFunc] := ⟨.nilFunc, by kernel_rfl, .one rfl⟩
instance : Sc Tryd.prog 39 := ⟨_, Tryd.underlying39, rfl, by kernel_rfl⟩
instance : ZeroT Tryd.prog 39 [.nilFunc] := ⟨.nilFunc, by kernel_rfl, .one rfl⟩
instance : Sc Tryd.prog 40 := ⟨_, Tryd.underlying40, rfl, by kernel_rfl⟩
instance : ZeroT Tryd.prog 40 [.nilFunc] := ⟨.nilFunc, by kernel_rfl, .one rfl⟩
instance : Sc Tryd.prog 41 := ⟨_, Tryd.underlying41, rfl, by kernel_rfl⟩
instance : ZeroT Tryd.prog 41 [.nilFunc] := ⟨.nilFunc, by kernel_rfl, .one rfl⟩
instance : Ag Tryd.prog 42 6 := ⟨_, Tryd.underlying42, rfl, by kernel_rfl⟩
instance : FieldAt Tryd.prog 42 0 0 := ⟨_, _, 0, Tryd.underlying42, rfl, rfl, by kernel_rfl⟩
instance : FieldAt Tryd.prog 42 1 1 := ⟨_, _, 0, Tryd.underlying42, rfl, rfl, by kernel_rfl⟩
instance : FieldAt Tryd.prog 42 2 2 := ⟨_, _, 0, Tryd.underlying42, rfl, rfl, by kernel_rfl⟩
instance : FieldAt Tryd.prog 42 3 3 := ⟨_, _, 0, Tryd.underlying42, rfl, rfl, by kernel_rfl⟩
instance : FieldAt Tryd.prog 42 4 4 := ⟨_, _, 0, Tryd.underlying42, rfl, rfl, by kernel_rfl⟩
instance : FieldAt Tryd.prog 42 5 5 := ⟨_, _, 0, Tryd.underlying42, rfl, rfl, by kernel_rfl⟩
instance : OffsT Tryd.prog 42 [(0, 1), (1, 1), (2, 1), (3, 1), (4, 1), (5, 1)] [.int .i64 0, .int .i64 0, .int .i64 0, .string .empty, .slice none 0 0, .string .empty] := ⟨(([(0, 1), (1, 1), (2, 1), (3, 1), (4, 1), (5, 1)] : List (Nat × Nat)).toArray[·]?), fun _ => by kernel_rfl, fun i p h => by simpa using h⟩
instance : ZeroT Tryd.prog 42 [.int .i64 0, .int .i64 0, .int .i64 0, .string .empty, .slice none 0 0, .string .empty] := ⟨_, show still Tryd.prog (zeroValue 42) = some (.agg (List.toArray [.int .i64 0, .int .i64 0, .int .i64 0, .string .empty, .slice none 0 0, .string .empty])) by kernel_rfl, .agg _⟩
instance : Ag Tryd.prog 43 6 := ⟨_, Tryd.underlying43, rfl, by kernel_rfl⟩
instance : FieldAt Tryd.prog 43 0 0 := ⟨_, _, 0, Tryd.underlying43, rfl, rfl, by kernel_rfl⟩
instance : FieldAt Tryd.prog 43 1 1 := ⟨_, _, 0, Tryd.underlying43, rfl, rfl, by kernel_rfl⟩
instance : FieldAt Tryd.prog 43 2 2 := ⟨_, _, 0, Tryd.underlying43, rfl, rfl, by kernel_rfl⟩
instance : FieldAt Tryd.prog 43 3 3 := ⟨_, _, 0, Tryd.underlying43, rfl, rfl, by kernel_rfl⟩
instance : FieldAt Tryd.prog 43 4 4 := ⟨_, _, 0, Tryd.underlying43, rfl, rfl, by kernel_rfl⟩
instance : FieldAt Tryd.prog 43 5 5 := ⟨_, _, 0, Tryd.underlying43, rfl, rfl, by kernel_rfl⟩
instance : OffsT Tryd.prog 43 [(0, 1), (1, 1), (2, 1), (3, 1), (4, 1), (5, 1)] [.int .i64 0, .int .i64 0, .int .i64 0, .string .empty, .slice none 0 0, .string .empty] := ⟨(([(0, 1), (1, 1), (2, 1), (3, 1), (4, 1), (5, 1)] : List (Nat × Nat)).toArray[·]?), fun _ => by kernel_rfl, fun i p h => by simpa using h⟩
instance : ZeroT Tryd.prog 43 [.int .i64 0, .int .i64 0, .int .i64 0, .string .empty, .slice none 0 0, .string .empty] := ⟨_, show still Tryd.prog (zeroValue 43) = some (.agg (List.toArray [.int .i64 0, .int .i64 0, .int .i64 0, .string .empty, .slice none 0 0, .string .empty])) by kernel_rfl, .agg _⟩
instance : Sc Tryd.prog 44 := ⟨_, Tryd.underlying44, rfl, by kernel_rfl⟩
instance : ZeroT Tryd.prog 44 [.nilFunc] := ⟨.nilFunc, by kernel_rfl, .one rfl⟩
instance : Sc Tryd.prog 45 := ⟨_, Tryd.underlying45, rfl, by kernel_rfl⟩
instance : ZeroT Tryd.prog 45 [.nilFunc] := ⟨.nilFunc, by kernel_rfl, .one rfl⟩
instance : Ag Tryd.prog 46 5 := ⟨_, Tryd.underlying46, rfl, by kernel_rfl⟩
instance : FieldAt Tryd.prog 46 0 0 := ⟨_, _, 0, Tryd.underlying46, rfl, rfl, by kernel_rfl⟩
instance : FieldAt Tryd.prog 46 1 1 := ⟨_, _, 0, Tryd.underlying46, rfl, rfl, by kernel_rfl⟩
instance : FieldAt Tryd.prog 46 2 2 := ⟨_, _, 0, Tryd.underlying46, rfl, rfl, by kernel_rfl⟩
instance : FieldAt Tryd.prog 46 3 3 := ⟨_, _, 0, Tryd.underlying46, rfl, rfl, by kernel_rfl⟩
instance : FieldAt Tryd.prog 46 4 4 := ⟨_, _, 0, Tryd.underlying46, rfl, rfl, by kernel_rfl⟩
instance : OffsT Tryd.prog 46 [(0, 1), (1, 1), (2, 1), (3, 1), (4, 1)] [.int .i64 0, .int .i64 0, .int .i64 0, .int .i64 0, .bool false] := ⟨(([(0, 1), (1, 1), (2, 1), (3, 1), (4, 1)] : List (Nat × Nat)).toArray[·]?), fun _ => by kernel_rfl, fun i p h => by simpa using h⟩
instance : ZeroT Tryd.prog 46 [.int .i64 0, .int .i64 0, .int .i64 0, .int .i64 0, .bool false] := ⟨_, show still Tryd.prog (zeroValue 46) = some (.agg (List.toArray [.int .i64 0, .int .i64 0, .int .i64 0, .int .i64 0, .bool false])) by kernel_rfl, .agg _⟩
instance : Ag Tryd.prog 47 5 := ⟨_, Tryd.underlying47, rfl, by kernel_rfl⟩
instance : FieldAt Tryd.prog 47 0 0 := ⟨_, _, 0, Tryd.underlying47, rfl, rfl, by kernel_rfl⟩
instance : FieldAt Tryd.prog 47 1 1 := ⟨_, _, 0, Tryd.underlying47, rfl, rfl, by kernel_rfl⟩
instance : FieldAt Tryd.prog 47 2 2 := ⟨_, _, 0, Tryd.underlying47, rfl, rfl, by kernel_rfl⟩
instance : FieldAt Tryd.prog 47 3 3 := ⟨_, _, 0, Tryd.underlying47, rfl, rfl, by kernel_rfl⟩
instance : FieldAt Tryd.prog 47 4 4 := ⟨_, _, 0, Tryd.underlying47, rfl, rfl, by kernel_rfl⟩
instance : OffsT Tryd.prog 47 [(0, 1), (1, 1), (2, 1), (3, 1), (4, 1)] [.int .i64 0, .int .i64 0, .int .i64 0, .int .i64 0, .bool false] := ⟨(([(0, 1), (1, 1), (2, 1), (3, 1), (4, 1)] : List (Nat × Nat)).toArray[·]?), fun _ => by kernel_rfl, fun i p h => by simpa using h⟩
instance : ZeroT Tryd.prog 47 [.int .i64 0, .int .i64 0, .int .i64 0, .int .i64 0, .bool false] := ⟨_, show still Tryd.prog (zeroValue 47) = some (.agg (List.toArray [.int .i64 0, .int .i64 0, .int .i64 0, .int .i64 0, .bool false])) by kernel_rfl, .agg _⟩
instance : Sc Tryd.prog 48 := ⟨_, Tryd.underlying48, rfl, by kernel_rfl⟩
instance : ZeroT Tryd.prog 48 [.nilFunc] := ⟨.nilFunc, by kernel_rfl, .one rfl⟩
instance : Sc Tryd.prog 50 := ⟨_, Tryd.underlying50, rfl, by kernel_rfl⟩
instance : ZeroT Tryd.prog 50 [.nilFunc] := ⟨.nilFunc, by kernel_rfl, .one rfl⟩
instance : Sc Tryd.prog 51 := ⟨_, Tryd.underlying51, rfl, by kernel_rfl⟩
instance : ZeroT Tryd.prog 51 [.nilFunc] := ⟨.nilFunc, by kernel_rfl, .one rfl⟩
instance : Sc Tryd.prog 53 := ⟨_, Tryd.underlying53, rfl, by kernel_rfl⟩
instance : ZeroT Tryd.prog 53 [.nilFunc] := ⟨.nilFunc, by kernel_rfl, .one rfl⟩
instance : Sc Tryd.prog 54 := ⟨_, Tryd.underlying54, rfl, by kernel_rfl⟩
instance : ZeroT Tryd.prog 54 [.nilFunc] := ⟨.nilFunc, by kernel_rfl, .one rfl⟩
instance : Sc Tryd.prog 56 := ⟨_, Tryd.underlying56, rfl, by kernel_rfl⟩
instance : ZeroT Tryd.prog 56 [.nilFunc] := ⟨.nilFunc, by kernel_rfl, .one rfl⟩
instance : Sc Tryd.prog 57 := ⟨_, Tryd.underlying57, rfl, by kernel_rfl⟩
instance : ZeroT Tryd.prog 57 [.nilFunc] := ⟨.nilFunc, by kernel_rfl, .one rfl⟩
instance : Sc Tryd.prog 58 := ⟨_, Tryd.underlying58, rfl, by kernel_rfl⟩
instance : ZeroT Tryd.prog 58 [.slice none 0 0] := ⟨.slice none 0 0, by kernel_rfl, .one rfl⟩
instance : SliceT Tryd.prog 58 64 4 40 := ⟨Tryd.underlying58, by decide, by decide, .agg #[.string .empty, .string .empty, .bool false, .bool false], by kernel_rfl, by kernel_rfl⟩
instance : Sc Tryd.prog 59 := ⟨_, Tryd.underlying59, rfl, by kernel_rfl⟩
instance : ZeroT Tryd.prog 59 [.nilFunc] := ⟨.nilFunc, by kernel_rfl, .one rfl⟩
instance : Sc Tryd.prog 61 := ⟨_, Tryd.underlying61, rfl, by kernel_rfl⟩
instance : ZeroT Tryd.prog 61 [.nilFunc] := ⟨.nilFunc, by kernel_rfl, .one rfl⟩
instance : Sc Tryd.prog 62 := ⟨_, Tryd.underlying62, rfl, by kernel_rfl⟩
instance : ZeroT Tryd.prog 62 [.nilFunc] := ⟨.nilFunc, by kernel_rfl, .one rfl⟩
instance : Ag Tryd.prog 63 4 := ⟨_, Tryd.underlying63, rfl, by kernel_rfl⟩
instance : FieldAt Tryd.prog 63 0 0 := ⟨_, _, 0, Tryd.underlying63, rfl, rfl, by kernel_rfl⟩
instance : FieldAt Tryd.prog 63 1 1 := ⟨_, _, 0, Tryd.underlying63, rfl, rfl, by kernel_rfl⟩
instance : FieldAt Tryd.prog 63 2 2 := ⟨_, _, 0, Tryd.underlying63, rfl, rfl, by kernel_rfl⟩
instance : FieldAt Tryd.prog 63 3 3 := ⟨_, _, 0, Tryd.underlying63, rfl, rfl, by kernel_rfl⟩
instance : OffsT Tryd.prog 63 [(0, 1), (1, 1), (2, 1), (3, 1)] [.string .empty, .string .empty, .bool false, .bool false] := ⟨(([(0, 1), (1, 1), (2, 1), (3, 1)] : List (Nat × Nat)).toArray[·]?), fun _ => by kernel_rfl, fun i p h => by simpa using h⟩
instance : ZeroT Tryd.prog 63 [.string .empty, .string .empty, .bool false, .bool false] := ⟨_, show still Tryd.prog (zeroValue 63) = some (.agg (List.toArray [.string .empty, .string .empty, .bool false, .bool false])) by kernel_rfl, .agg _⟩
instance : Ag Tryd.prog 64 4 := ⟨_, Tryd.underlying64, rfl, by kernel_rfl⟩
instance : FieldAt Tryd.prog 64 0 0 := ⟨_, _, 0, Tryd.underlying64, rfl, rfl, by kernel_rfl⟩
instance : FieldAt Tryd.prog 64 1 1 := ⟨_, _, 0, Tryd.underlying64, rfl, rfl, by kernel_rfl⟩
instance : FieldAt Tryd.prog 64 2 2 := ⟨_, _, 0, Tryd.underlying64, rfl, rfl, by kernel_rfl⟩
instance : FieldAt Tryd.prog 64 3 3 := ⟨_, _, 0, Tryd.underlying64, rfl, rfl, by kernel_rfl⟩
instance : OffsT Tryd.prog 64 [(0, 1), (1, 1), (2, 1), (3, 1)] [.string .empty, .string .empty, .bool false, .bool false] := ⟨(([(0, 1), (1, 1), (2, 1), (3, 1)] : List (Nat × Nat)).toArray[·]?), fun _ => by kernel_rfl, fun i p h => by simpa using h⟩
instance : ZeroT Tryd.prog 64 [.string .empty, .string .empty, .bool false, .bool false] := ⟨_, show still Tryd.prog (zeroValue 64) = some (.agg (List.toArray [.string .empty, .string .empty, .bool false, .bool false])) by kernel_rfl, .agg _⟩
instance : Sc Tryd.prog 65 := ⟨_, Tryd.underlying65, rfl, by kernel_rfl⟩
instance : ZeroT Tryd.prog 65 [.nilFunc] := ⟨.nilFunc, by kernel_rfl, .one rfl⟩
instance : Sc Tryd.prog 66 := ⟨_, Tryd.underlying66, rfl, by kernel_rfl⟩
instance : ZeroT Tryd.prog 66 [.nilFunc] := ⟨.nilFunc, by kernel_rfl, .one rfl⟩
instance : Sc Tryd.prog 67 := ⟨_, Tryd.underlying67, rfl, by kernel_rfl⟩
instance : ZeroT Tryd.prog 67 [.slice none 0 0] := ⟨.slice none 0 0, by kernel_rfl, .one rfl⟩
instance : SliceT Tryd.prog 67 9 1 16 := ⟨Tryd.underlying67, by decide, by decide, .string .empty, by kernel_rfl, by kernel_rfl⟩
instance : Sc Tryd.prog 68 := ⟨_, Tryd.underlying68, rfl, by kernel_rfl⟩
instance : ZeroT Tryd.prog 68 [.int .u64 0] := ⟨.int .u64 0, by kernel_rfl, .one rfl⟩
instance : IntT Tryd.prog 68 .u64 := ⟨Tryd.underlying68⟩
instance : Ag Tryd.prog 69 4 := ⟨_, Tryd.underlying69, rfl, by kernel_rfl⟩
instance : ArrT Tryd.prog 69 4 68 1 := ⟨Tryd.underlying69, by kernel_rfl⟩
instance : OffsT Tryd.prog 69 (arrOffs 4 1) [.int .u64 0, .int .u64 0, .int .u64 0, .int .u64 0] := ⟨fun i => some (i * 1, 1), fun _ => by kernel_rfl, arrOffs_at 4 1⟩
instance : ZeroT Tryd.prog 69 [.int .u64 0, .int .u64 0, .int .u64 0, .int .u64 0] := ⟨_, show still Tryd.prog (zeroValue 69) = some (.agg (List.toArray [.int .u64 0, .int .u64 0, .int .u64 0, .int .u64 0])) by kernel_rfl, .agg _⟩
instance : Ag Tryd.prog 70 8 := ⟨_, Tryd.underlying70, rfl, by kernel_rfl⟩
instance : FieldAt Tryd.prog 70 0 0 := ⟨_, _, 3, Tryd.underlying70, rfl, rfl, by kernel_rfl⟩
instance : FieldAt Tryd.prog 70 1 4 := ⟨_, _, 3, Tryd.underlying70, rfl, rfl, by kernel_rfl⟩
instance : OffsT Tryd.prog 70 [(0, 4), (4, 4)] [.int .u64 0, .int .u64 0, .int .u64 0, .int .u64 0, .int .u64 0, .int .u64 0, .int .u64 0, .int .u64 0] := ⟨(([(0, 4), (4, 4)] : List (Nat × Nat)).toArray[·]?), fun _ => by kernel_rfl, fun i p h => by simpa using h⟩
instance : ZeroT Tryd.prog 70 [.int .u64 0, .int .u64 0, .int .u64 0, .int .u64 0, .int .u64 0, .int .u64 0, .int .u64 0, .int .u64 0] := ⟨_, show still Tryd.prog (zeroValue 70) = some (.agg (List.toArray [.int .u64 0, .int .u64 0, .int .u64 0, .int .u64 0, .int .u64 0, .int .u64 0, .int .u64 0, .int .u64 0])) by kernel_rfl, .agg _⟩
instance : Ag Tryd.prog 71 8 := ⟨_, Tryd.underlying71, rfl, by kernel_rfl⟩
instance : FieldAt Tryd.prog 71 0 0 := ⟨_, _, 3, Tryd.underlying71, rfl, rfl, by kernel_rfl⟩
instance : FieldAt Tryd.prog 71 1 4 := ⟨_, _, 3, Tryd.underlying71, rfl, rfl, by kernel_rfl⟩
instance : OffsT Tryd.prog 71 [(0, 4), (4, 4)] [.int .u64 0, .int .u64 0, .int .u64 0, .int .u64 0, .int .u64 0, .int .u64 0, .int .u64 0, .int .u64 0] := ⟨(([(0, 4), (4, 4)] : List (Nat × Nat)).toArray[·]?), fun _ => by kernel_rfl, fun i p h => by simpa using h⟩
instance : ZeroT Tryd.prog 71 [.int .u64 0, .int .u64 0, .int .u64 0, .int .u64 0, .int .u64 0, .int .u64 0, .int .u64 0, .int .u64 0] := ⟨_, show still Tryd.prog (zeroValue 71) = some (.agg (List.toArray [.int .u64 0, .int .u64 0, .int .u64 0, .int .u64 0, .int .u64 0, .int .u64 0, .int .u64 0, .int .u64 0])) by kernel_rfl, .agg _⟩
instance : Ag Tryd.prog 72 5 := ⟨_, Tryd.underlying72, rfl, by kernel_rfl⟩
instance : FieldAt Tryd.prog 72 0 0 := ⟨_, _, 0, Tryd.underlying72, rfl, rfl, by kernel_rfl⟩
instance : FieldAt Tryd.prog 72 1 1 := ⟨_, _, 0, Tryd.underlying72, rfl, rfl, by kernel_rfl⟩
instance : FieldAt Tryd.prog 72 2 2 := ⟨_, _, 0, Tryd.underlying72, rfl, rfl, by kernel_rfl⟩
instance : FieldAt Tryd.prog 72 3 3 := ⟨_, _, 0, Tryd.underlying72, rfl, rfl, by kernel_rfl⟩
instance : FieldAt Tryd.prog 72 4 4 := ⟨_, _, 0, Tryd.underlying72, rfl, rfl, by kernel_rfl⟩
instance : OffsT Tryd.prog 72 [(0, 1), (1, 1), (2, 1), (3, 1), (4, 1)] [.int .i64 0, .int .i64 0, .int .i64 0, .string .empty, .bool false] := ⟨(([(0, 1), (1, 1), (2, 1), (3, 1), (4, 1)] : List (Nat × Nat)).toArray[·]?), fun _ => by kernel_rfl, fun i p h => by simpa using h⟩
instance : ZeroT Tryd.prog 72 [.int .i64 0, .int .i64 0, .int .i64 0, .string .empty, .bool false] := ⟨_, show still Tryd.prog (zeroValue 72) = some (.agg (List.toArray [.int .i64 0, .int .i64 0, .int .i64 0, .string .empty, .bool false])) by kernel_rfl, .agg _⟩
instance : Ag Tryd.prog 73 5 := ⟨_, Tryd.underlying73, rfl, by kernel_rfl⟩
instance : FieldAt Tryd.prog 73 0 0 := ⟨_, _, 0, Tryd.underlying73, rfl, rfl, by kernel_rfl⟩
instance : FieldAt Tryd.prog 73 1 1 := ⟨_, _, 0, Tryd.underlying73, rfl, rfl, by kernel_rfl⟩
instance : FieldAt Tryd.prog 73 2 2 := ⟨_, _, 0, Tryd.underlying73, rfl, rfl, by kernel_rfl⟩
instance : FieldAt Tryd.prog 73 3 3 := ⟨_, _, 0, Tryd.underlying73, rfl, rfl, by kernel_rfl⟩
instance : FieldAt Tryd.prog 73 4 4 := ⟨_, _, 0, Tryd.underlying73, rfl, rfl, by kernel_rfl⟩
instance : OffsT Tryd.prog 73 [(0, 1), (1, 1), (2, 1), (3, 1), (4, 1)] [.int .i64 0, .int .i64 0, .int .i64 0, .string .empty, .bool false] := ⟨(([(0, 1), (1, 1), (2, 1), (3, 1), (4, 1)] : List (Nat × Nat)).toArray[·]?), fun _ => by kernel_rfl, fun i p h => by simpa using h⟩
instance : ZeroT Tryd.prog 73 [.int .i64 0, .int .i64 0, .int .i64 0, .string .empty, .bool false] := ⟨_, show still Tryd.prog (zeroValue 73) = some (.agg (List.toArray [.int .i64 0, .int .i64 0, .int .i64 0, .string .empty, .bool false])) by kernel_rfl, .agg _⟩
instance : Sc Tryd.prog 74 := ⟨_, Tryd.underlying74, rfl, by kernel_rfl⟩
instance : ZeroT Tryd.prog 74 [.slice none 0 0] := ⟨.slice none 0 0, by kernel_rfl, .one rfl⟩
instance : SliceT Tryd.prog 74 220 4 32 := ⟨Tryd.underlying74, by decide, by decide, .agg #[.int .i64 0, .int .i64 0, .int .i64 0, .int .i64 0], by kernel_rfl, by kernel_rfl⟩
instance : Ag Tryd.prog 75 3 := ⟨_, Tryd.underlying75, rfl, by kernel_rfl⟩
instance : FieldAt Tryd.prog 75 0 0 := ⟨_, _, 0, Tryd.underlying75, rfl, rfl, by kernel_rfl⟩
instance : FieldAt Tryd.prog 75 1 1 := ⟨_, _, 0, Tryd.underlying75, rfl, rfl, by kernel_rfl⟩
instance : FieldAt Tryd.prog 75 2 2 := ⟨_, _, 0, Tryd.underlying75, rfl, rfl, by kernel_rfl⟩
instance : OffsT Tryd.prog 75 [(0, 1), (1, 1), (2, 1)] [.int .i64 0, .int .i64 0, .slice none 0 0] := ⟨(([(0, 1), (1, 1), (2, 1)] : List (Nat × Nat)).toArray[·]?), fun _ => by kernel_rfl, fun i p h => by simpa using h⟩
instance : ZeroT Tryd.prog 75 [.int .i64 0, .int .i64 0, .slice none 0 0] := ⟨_, show still Tryd.prog (zeroValue 75) = some (.agg (List.toArray [.int .i64 0, .int .i64 0, .slice none 0 0])) by kernel_rfl, .agg _⟩
instance : Ag Tryd.prog 76 3 := ⟨_, Tryd.underlying76, rfl, by kernel_rfl⟩
instance : FieldAt Tryd.prog 76 0 0 := ⟨_, _, 0, Tryd.underlying76, rfl, rfl, by kernel_rfl⟩
instance : FieldAt Tryd.prog 76 1 1 := ⟨_, _, 0, Tryd.underlying76, rfl, rfl, by kernel_rfl⟩
instance : FieldAt Tryd.prog 76 2 2 := ⟨_, _, 0, Tryd.underlying76, rfl, rfl, by kernel_rfl⟩
instance : OffsT Tryd.prog 76 [(0, 1), (1, 1), (2, 1)] [.int .i64 0, .int .i64 0, .slice none 0 0] := ⟨(([(0, 1), (1, 1), (2, 1)] : List (Nat × Nat)).toArray[·]?), fun _ => by kernel_rfl, fun i p h => by simpa using h⟩
instance : ZeroT Tryd.prog 76 [.int .i64 0, .int .i64 0, .slice none 0 0] := ⟨_, show still Tryd.prog (zeroValue 76) = some (.agg (List.toArray [.int .i64 0, .int .i64 0, .slice none 0 0])) by kernel_rfl, .agg _⟩
instance : Ag Tryd.prog 77 3 := ⟨_, Tryd.underlying77, rfl, by kernel_rfl⟩
instance : FieldAt Tryd.prog 77 0 0 := ⟨_, _, 0, Tryd.underlying77, rfl, rfl, by kernel_rfl⟩
instance : FieldAt Tryd.prog 77 1 1 := ⟨_, _, 0, Tryd.underlying77, rfl, rfl, by kernel_rfl⟩
instance : FieldAt Tryd.prog 77 2 2 := ⟨_, _, 0, Tryd.underlying77, rfl, rfl, by kernel_rfl⟩
instance : OffsT Tryd.prog 77 [(0, 1), (1, 1), (2, 1)] [.int .i64 0, .int .i64 0, .int .i64 0] := ⟨(([(0, 1), (1, 1), (2, 1)] : List (Nat × Nat)).toArray[·]?), fun _ => by kernel_rfl, fun i p h => by simpa using h⟩
instance : ZeroT Tryd.prog 77 [.int .i64 0, .int .i64 0, .int .i64 0] := ⟨_, show still Tryd.prog (zeroValue 77) = some (.agg (List.toArray [.int .i64 0, .int .i64 0, .int .i64 0])) by kernel_rfl, .agg _⟩
instance : Ag Tryd.prog 78 3 := ⟨_, Tryd.underlying78, rfl, by kernel_rfl⟩
instance : FieldAt Tryd.prog 78 0 0 := ⟨_, _, 0, Tryd.underlying78, rfl, rfl, by kernel_rfl⟩
instance : FieldAt Tryd.prog 78 1 1 := ⟨_, _, 0, Tryd.underlying78, rfl, rfl, by kernel_rfl⟩
instance : FieldAt Tryd.prog 78 2 2 := ⟨_, _, 0, Tryd.underlying78, rfl, rfl, by kernel_rfl⟩
instance : OffsT Tryd.prog 78 [(0, 1), (1, 1), (2, 1)] [.int .i64 0, .int .i64 0, .int .i64 0] := ⟨(([(0, 1), (1, 1), (2, 1)] : List (Nat × Nat)).toArray[·]?), fun _ => by kernel_rfl, fun i p h => by simpa using h⟩
instance : ZeroT Tryd.prog 78 [.int .i64 0, .int .i64 0, .int .i64 0] := ⟨_, show still Tryd.prog (zeroValue 78) = some (.agg (List.toArray [.int .i64 0, .int .i64 0, .int .i64 0])) by kernel_rfl, .agg _⟩
instance : Ag Tryd.prog 79 4 := ⟨_, Tryd.underlying79, rfl, by kernel_rfl⟩
instance : FieldAt Tryd.prog 79 0 0 := ⟨_, _, 3, Tryd.underlying79, rfl, rfl, by kernel_rfl⟩
instance : OffsT Tryd.prog 79 [(0, 4)] [.int .u64 0, .int .u64 0, .int .u64 0, .int .u64 0] := ⟨(([(0, 4)] : List (Nat × Nat)).toArray[·]?), fun _ => by kernel_rfl, fun i p h => by simpa using h⟩
instance : ZeroT Tryd.prog 79 [.int .u64 0, .int .u64 0, .int .u64 0, .int .u64 0] := ⟨_, show still Tryd.prog (zeroValue 79) = some (.agg (List.toArray [.int .u64 0, .int .u64 0, .int .u64 0, .int .u64 0])) by kernel_rfl, .agg _⟩
instance : Ag Tryd.prog 80 4 := ⟨_, Tryd.underlying80, rfl, by kernel_rfl⟩
instance : FieldAt Tryd.prog 80 0 0 := ⟨_, _, 3, Tryd.underlying80, rfl, rfl, by kernel_rfl⟩
instance : OffsT Tryd.prog 80 [(0, 4)] [.int .u64 0, .int .u64 0, .int .u64 0, .int .u64 0] := ⟨(([(0, 4)] : List (Nat × Nat)).toArray[·]?), fun _ => by kernel_rfl, fun i p h => by simpa using h⟩
instance : ZeroT Tryd.prog 80 [.int .u64 0, .int .u64 0, .int .u64 0, .int .u64 0] := ⟨_, show still Tryd.prog (zeroValue 80) = some (.agg (List.toArray [.int .u64 0, .int .u64 0, .int .u64 0, .int .u64 0])) by kernel_rfl, .agg _⟩
instance : Ag Tryd.prog 81 2 := ⟨_, Tryd.underlying81, rfl, by kernel_rfl⟩
instance : ArrT Tryd.prog 81 2 3 1 := ⟨Tryd.underlying81, by kernel_rfl⟩
instance : OffsT Tryd.prog 81 (arrOffs 2 1) [.int .i64 0, .int .i64 0] := ⟨fun i => some (i * 1, 1), fun _ => by kernel_rfl, arrOffs_at 2 1⟩
instance : ZeroT Tryd.prog 81 [.int .i64 0, .int .i64 0] := ⟨_, show still Tryd.prog (zeroValue 81) = some (.agg (List.toArray [.int .i64 0, .int .i64 0])) by kernel_rfl, .agg _⟩
instance : Ag Tryd.prog 82 9 := ⟨_, Tryd.underlying82, rfl, by kernel_rfl⟩
instance : FieldAt Tryd.prog 82 0 0 := ⟨_, _, 0, Tryd.underlying82, rfl, rfl, by kernel_rfl⟩
instance : FieldAt Tryd.prog 82 1 1 := ⟨_, _, 0, Tryd.underlying82, rfl, rfl, by kernel_rfl⟩
instance : FieldAt Tryd.prog 82 2 2 := ⟨_, _, 2, Tryd.underlying82, rfl, rfl, by kernel_rfl⟩
instance : FieldAt Tryd.prog 82 3 5 := ⟨_, _, 0, Tryd.underlying82, rfl, rfl, by kernel_rfl⟩
instance : FieldAt Tryd.prog 82 4 6 := ⟨_, _, 1, Tryd.underlying82, rfl, rfl, by kernel_rfl⟩
instance : FieldAt Tryd.prog 82 5 8 := ⟨_, _, 0, Tryd.underlying82, rfl, rfl, by kernel_rfl⟩
instance : OffsT Tryd.prog 82 [(0, 1), (1, 1), (2, 3), (5, 1), (6, 2), (8, 1)] [.int .i64 0, .int .i64 0, .int .i64 0, .int .i64 0, .int .i64 0, .bool false, .int .i64 0, .int .i64 0, .int .i64 0] := ⟨(([(0, 1), (1, 1), (2, 3), (5, 1), (6, 2), (8, 1)] : List (Nat × Nat)).toArray[·]?), fun _ => by kernel_rfl, fun i p h => by simpa using h⟩
instance : ZeroT Tryd.prog 82 [.int .i64 0, .int .i64 0, .int .i64 0, .int .i64 0, .int .i64 0, .bool false, .int .i64 0, .int .i64 0, .int .i64 0] := ⟨_, show still Tryd.prog (zeroValue 82) = some (.agg (List.toArray [.int .i64 0, .int .i64 0, .int .i64 0, .int .i64 0, .int .i64 0, .bool false, .int .i64 0, .int .i64 0, .int .i64 0])) by kernel_rfl, .agg _⟩
instance : Ag Tryd.prog 83 9 := ⟨_, Tryd.underlying83, rfl, by kernel_rfl⟩
instance : FieldAt Tryd.prog 83 0 0 := ⟨_, _, 0, Tryd.underlying83, rfl, rfl, by kernel_rfl⟩
instance : FieldAt Tryd.prog 83 1 1 := ⟨_, _, 0, Tryd.underlying83, rfl, rfl, by kernel_rfl⟩
instance : FieldAt Tryd.prog 83 2 2 := ⟨_, _, 2, Tryd.underlying83, rfl, rfl, by kernel_rfl⟩
instance : FieldAt Tryd.prog 83 3 5 := ⟨_, _, 0, Tryd.underlying83, rfl, rfl, by kernel_rfl⟩
instance : FieldAt Tryd.prog 83 4 6 := ⟨_, _, 1, Tryd.underlying83, rfl, rfl, by kernel_rfl⟩
instance : FieldAt Tryd.prog 83 5 8 := ⟨_, _, 0, Tryd.underlying83, rfl, rfl, by kernel_rfl⟩
instance : OffsT Tryd.prog 83 [(0, 1), (1, 1), (2, 3), (5, 1), (6, 2), (8, 1)] [.int .i64 0, .int .i64 0, .int .i64 0, .int .i64 0, .int .i64 0, .bool false, .int .i64 0, .int .i64 0, .int .i64 0] := ⟨(([(0, 1), (1, 1), (2, 3), (5, 1), (6, 2), (8, 1)] : List (Nat × Nat)).toArray[·]?), fun _ => by kernel_rfl, fun i p h => by simpa using h⟩
instance : ZeroT Tryd.prog 83 [.int .i64 0, .int .i64 0, .int .i64 0, .int .i64 0, .int .i64 0, .bool false, .int .i64 0, .int .i64 0, .int .i64 0] := ⟨_, show still Tryd.prog (zeroValue 83) = some (.agg (List.toArray [.int .i64 0, .int .i64 0, .int .i64 0, .int .i64 0, .int .i64 0, .bool false, .int .i64 0, .int .i64 0, .int .i64 0])) by kernel_rfl, .agg _⟩
instance : Sc Tryd.prog 84 := ⟨_, Tryd.underlying84, rfl, by kernel_rfl⟩
instance : ZeroT Tryd.prog 84 [.slice none 0 0] := ⟨.slice none 0 0, by kernel_rfl, .one rfl⟩
instance : SliceT Tryd.prog 84 217 1 24 := ⟨Tryd.underlying84, by decide, by decide, .agg #[.slice none 0 0], by kernel_rfl, by kernel_rfl⟩
instance : Ag Tryd.prog 85 33 := ⟨_, Tryd.underlying85, rfl, by kernel_rfl⟩
instance : FieldAt Tryd.prog 85 0 0 := ⟨_, _, 2, Tryd.underlying85, rfl, rfl, by kernel_rfl⟩
instance : FieldAt Tryd.prog 85 1 3 := ⟨_, _, 0, Tryd.underlying85, rfl, rfl, by kernel_rfl⟩
instance : FieldAt Tryd.prog 85 2 4 := ⟨_, _, 0, Tryd.underlying85, rfl, rfl, by kernel_rfl⟩
instance : FieldAt Tryd.prog 85 3 5 := ⟨_, _, 0, Tryd.underlying85, rfl, rfl, by kernel_rfl⟩
instance : FieldAt Tryd.prog 85 4 6 := ⟨_, _, 0, Tryd.underlying85, rfl, rfl, by kernel_rfl⟩
instance : FieldAt Tryd.prog 85 5 7 := ⟨_, _, 0, Tryd.underlying85, rfl, rfl, by kernel_rfl⟩
instance : FieldAt Tryd.prog 85 6 8 := ⟨_, _, 2, Tryd.underlying85, rfl, rfl, by kernel_rfl⟩
instance : FieldAt Tryd.prog 85 7 11 := ⟨_, _, 0, Tryd.underlying85, rfl, rfl, by kernel_rfl⟩
instance : FieldAt Tryd.prog 85 8 12 := ⟨_, _, 3, Tryd.underlying85, rfl, rfl, by kernel_rfl⟩
instance : FieldAt Tryd.prog 85 9 16 := ⟨_, _, 1, Tryd.underlying85, rfl, rfl, by kernel_rfl⟩
instance : FieldAt Tryd.prog 85 10 18 := ⟨_, _, 0, Tryd.underlying85, rfl, rfl, by kernel_rfl⟩
instance : FieldAt Tryd.prog 85 11 19 := ⟨_, _, 8, Tryd.underlying85, rfl, rfl, by kernel_rfl⟩
instance : FieldAt Tryd.prog 85 12 28 := ⟨_, _, 2, Tryd.underlying85, rfl, rfl, by kernel_rfl⟩
instance : FieldAt Tryd.prog 85 13 31 := ⟨_, _, 0, Tryd.underlying85, rfl, rfl, by kernel_rfl⟩
instance : FieldAt Tryd.prog 85 14 32 := ⟨_, _, 0, Tryd.underlying85, rfl, rfl, by kernel_rfl⟩
instance : OffsT Tryd.prog 85 [(0, 3), (3, 1), (4, 1), (5, 1), (6, 1), (7, 1), (8, 3), (11, 1), (12, 4), (16, 2), (18, 1), (19, 9), (28, 3), (31, 1), (32, 1)] [.int .i64 0, .int .i64 0, .slice none 0 0, .int .i64 0, .int .i64 0, .bool false, .int .i64 0, .int .i64 0, .int .i64 0, .int .i64 0, .int .i64 0, .int .i64 0, .int .u64 0, .int .u64 0, .int .u64 0, .int .u64 0, .int .i64 0, .int .i64 0, .int .i64 0, .int .i64 0, .int .i64 0, .int .i64 0, .int .i64 0, .int .i64 0, .bool false, .int .i64 0, .int .i64 0, .int .i64 0, .int .i64 0, .int .i64 0, .slice none 0 0, .string .empty, .slice none 0 0] := ⟨(([(0, 3), (3, 1), (4, 1), (5, 1), (6, 1), (7, 1), (8, 3), (11, 1), (12, 4), (16, 2), (18, 1), (19, 9), (28, 3), (31, 1), (32, 1)] : List (Nat × Nat)).toArray[·]?), fun _ => by kernel_rfl, fun i p h => by simpa using h⟩
instance : ZeroT Tryd.prog 85 [.int .i64 0, .int .i64 0, .slice none 0 0, .int .i64 0, .int .i64 0, .bool false, .int .i64 0, .int .i64 0, .int .i64 0, .int .i64 0, .int .i64 0, .int .i64 0, .int .u64 0, .int .u64 0, .int .u64 0, .int .u64 0, .int .i64 0, .int .i64 0, .int .i64 0, .int .i64 0, .int .i64 0, .int .i64 0, .int .i64 0, .int .i64 0, .bool false, .int .i64 0, .int .i64 0, .int .i64 0, .int .i64 0, .int .i64 0, .slice none 0 0, .string .empty, .slice none 0 0] := ⟨_, show still Tryd.prog (zeroValue 85) = some (.agg (List.toArray [.int .i64 0, .int .i64 0, .slice none 0 0, .int .i64 0, .int .i64 0, .bool false, .int .i64 0, .int .i64 0, .int .i64 0, .int .i64 0, .int .i64 0, .int .i64 0, .int .u64 0, .int .u64 0, .int .u64 0, .int .u64 0, .int .i64 0, .int .i64 0, .int .i64 0, .int .i64 0, .int .i64 0, .int .i64 0, .int .i64 0, .int .i64 0, .bool false, .int .i64 0, .int .i64 0, .int .i64 0, .int .i64 0, .int .i64 0, .slice none 0 0, .string .empty, .slice none 0 0])) by kernel_rfl, .agg _⟩
instance : Ag Tryd.prog 86 33 := ⟨_, Tryd.underlying86, rfl, by kernel_rfl⟩
instance : FieldAt Tryd.prog 86 0 0 := ⟨_, _, 2, Tryd.underlying86, rfl, rfl, by kernel_rfl⟩
instance : FieldAt Tryd.prog 86 1 3 := ⟨_, _, 0, Tryd.underlying86, rfl, rfl, by kernel_rfl⟩
instance : FieldAt Tryd.prog 86 2 4 := ⟨_, _, 0, Tryd.underlying86, rfl, rfl, by kernel_rfl⟩
instance : FieldAt Tryd.prog 86 3 5 := ⟨_, _, 0, Tryd.underlying86, rfl, rfl, by kernel_rfl⟩
instance : FieldAt Tryd.prog 86 4 6 := ⟨_, _, 0, Tryd.underlying86, rfl, rfl, by kernel_rfl⟩
instance : FieldAt Tryd.prog 86 5 7 := ⟨_, _, 0, Tryd.underlying86, rfl, rfl, by kernel_rfl⟩
instance : FieldAt Tryd.prog 86 6 8 := ⟨_, _, 2, Tryd.underlying86, rfl, rfl, by kernel_rfl⟩
instance : FieldAt Tryd.prog 86 7 11 := ⟨_, _, 0, Tryd.underlying86, rfl, rfl, by kernel_rfl⟩
instance : FieldAt Tryd.prog 86 8 12 := ⟨_, _, 3, Tryd.underlying86, rfl, rfl, by kernel_rfl⟩
instance : FieldAt Tryd.prog 86 9 16 := ⟨_, _, 1, Tryd.underlying86, rfl, rfl, by kernel_rfl⟩
instance : FieldAt Tryd.prog 86 10 18 := ⟨_, _, 0, Tryd.underlying86, rfl, rfl, by kernel_rfl⟩
instance : FieldAt Tryd.prog 86 11 19 := ⟨_, _, 8, Tryd.underlying86, rfl, rfl, by kernel_rfl⟩
instance : FieldAt Tryd.prog 86 12 28 := ⟨_, _, 2, Tryd.underlying86, rfl, rfl, by kernel_rfl⟩
instance : FieldAt Tryd.prog 86 13 31 := ⟨_, _, 0, Tryd.underlying86, rfl, rfl, by kernel_rfl⟩
instance : FieldAt Tryd.prog 86 14 32 := ⟨_, _, 0, Tryd.underlying86, rfl, rfl, by kernel_rfl⟩
instance : OffsT Tryd.prog 86 [(0, 3), (3, 1), (4, 1), (5, 1), (6, 1), (7, 1), (8, 3), (11, 1), (12, 4), (16, 2), (18, 1), (19, 9), (28, 3), (31, 1), (32, 1)] [.int .i64 0, .int .i64 0, .slice none 0 0, .int .i64 0, .int .i64 0, .bool false, .int .i64 0, .int .i64 0, .int .i64 0, .int .i64 0, .int .i64 0, .int .i64 0, .int .u64 0, .int .u64 0, .int .u64 0, .int .u64 0, .int .i64 0, .int .i64 0, .int .i64 0, .int .i64 0, .int .i64 0, .int .i64 0, .int .i64 0, .int .i64 0, .bool false, .int .i64 0, .int .i64 0, .int .i64 0, .int .i64 0, .int .i64 0, .slice none 0 0, .string .empty, .slice none 0 0] := ⟨(([(0, 3), (3, 1), (4, 1), (5, 1), (6, 1), (7, 1), (8, 3), (11, 1), (12, 4), (16, 2), (18, 1), (19, 9), (28, 3), (31, 1), (32, 1)] : List (Nat × Nat)).toArray[·]?), fun _ => by kernel_rfl, fun i p h => by simpa using h⟩
instance : ZeroT Tryd.prog 86 [.int .i64 0, .int .i64 0, .slice none 0 0, .int .i64 0, .int .i64 0, .bool false, .int .i64 0, .int .i64 0, .int .i64 0, .int .i64 0, .int .i64 0, .int .i64 0, .int .u64 0, .int .u64 0, .int .u64 0, .int .u64 0, .int .i64 0, .int .i64 0, .int .i64 0, .int .i64 0, .int .i64 0, .int .i64 0, .int .i64 0, .int .i64 0, .bool false, .int .i64 0, .int .i64 0, .int .i64 0, .int .i64 0, .int .i64 0, .slice none 0 0, .string .empty, .slice none 0 0] := ⟨_, show still Tryd.prog (zeroValue 86) = some (.agg (List.toArray [.int .i64 0, .int .i64 0, .slice none 0 0, .int .i64 0, .int .i64 0, .bool false, .int .i64 0, .int .i64 0, .int .i64 0, .int .i64 0, .int .i64 0, .int .i64 0, .int .u64 0, .int .u64 0, .int .u64 0, .int .u64 0, .int .i64 0, .int .i64 0, .int .i64 0, .int .i64 0, .int .i64 0, .int .i64 0, .int .i64 0, .int .i64 0, .bool false, .int .i64 0, .int .i64 0, .int .i64 0, .int .i64 0, .int .i64 0, .slice none 0 0, .string .empty, .slice none 0 0])) by kernel_rfl, .agg _⟩
instance : Ag Tryd.prog 87 256 := ⟨_, Tryd.underlying87, rfl, by kernel_rfl⟩
instance : ArrT Tryd.prog 87 256 5 1 := ⟨Tryd.underlying87, by kernel_rfl⟩
instance : Ag Tryd.prog 88 520 := ⟨_, Tryd.underlying88, rfl, by kernel_rfl⟩
instance : FieldAt Tryd.prog 88 0 0 := ⟨_, _, 255, Tryd.underlying88, rfl, rfl, by kernel_rfl⟩
instance : FieldAt Tryd.prog 88 1 256 := ⟨_, _, 255, Tryd.underlying88, rfl, rfl, by kernel_rfl⟩
instance : FieldAt Tryd.prog 88 2 512 := ⟨_, _, 3, Tryd.underlying88, rfl, rfl, by kernel_rfl⟩
instance : FieldAt Tryd.prog 88 3 516 := ⟨_, _, 3, Tryd.underlying88, rfl, rfl, by kernel_rfl⟩
instance : Ag Tryd.prog 89 520 := ⟨_, Tryd.underlying89, rfl, by kernel_rfl⟩
instance : FieldAt Tryd.prog 89 0 0 := ⟨_, _, 255, Tryd.underlying89, rfl, rfl, by kernel_rfl⟩
instance : FieldAt Tryd.prog 89 1 256 := ⟨_, _, 255, Tryd.underlying89, rfl, rfl, by kernel_rfl⟩
instance : FieldAt Tryd.prog 89 2 512 := ⟨_, _, 3, Tryd.underlying89, rfl, rfl, by kernel_rfl⟩
instance : FieldAt Tryd.prog 89 3 516 := ⟨_, _, 3, Tryd.underlying89, rfl, rfl, by kernel_rfl⟩
instance : Ag Tryd.prog 90 2 := ⟨_, Tryd.underlying90, rfl, by kernel_rfl⟩
instance : FieldAt Tryd.prog 90 0 0 := ⟨_, _, 0, Tryd.underlying90, rfl, rfl, by kernel_rfl⟩
instance : FieldAt Tryd.prog 90 1 1 := ⟨_, _, 0, Tryd.underlying90, rfl, rfl, by kernel_rfl⟩
instance : OffsT Tryd.prog 90 [(0, 1), (1, 1)] [.slice none 0 0, .int .i64 0] := ⟨(([(0, 1), (1, 1)] : List (Nat × Nat)).toArray[·]?), fun _ => by kernel_rfl, fun i p h => by simpa using h⟩
instance : ZeroT Tryd.prog 90 [.slice none 0 0, .int .i64 0] := ⟨_, show still Tryd.prog (zeroValue 90) = some (.agg (List.toArray [.slice none 0 0, .int .i64 0])) by kernel_rfl, .agg _⟩
instance : Ag Tryd.prog 91 2 := ⟨_, Tryd.underlying91, rfl, by kernel_rfl⟩
instance : FieldAt Tryd.prog 91 0 0 := ⟨_, _, 0, Tryd.underlying91, rfl, rfl, by kernel_rfl⟩
instance : FieldAt Tryd.prog 91 1 1 := ⟨_, _, 0, Tryd.underlying91, rfl, rfl, by kernel_rfl⟩
instance : OffsT Tryd.prog 91 [(0, 1), (1, 1)] [.slice none 0 0, .int .i64 0] := ⟨(([(0, 1), (1, 1)] : List (Nat × Nat)).toArray[·]?), fun _ => by kernel_rfl, fun i p h => by simpa using h⟩
instance : ZeroT Tryd.prog 91 [.slice none 0 0, .int .i64 0] := ⟨_, show still Tryd.prog (zeroValue 91) = some (.agg (List.toArray [.slice none 0 0, .int .i64 0])) by kernel_rfl, .agg _⟩
instance : Ag Tryd.prog 92 19 := ⟨_, Tryd.underlying92, rfl, by kernel_rfl⟩
instance : ArrT Tryd.prog 92 19 5 1 := ⟨Tryd.underlying92, by kernel_rfl⟩
instance : OffsT Tryd.prog 92 (arrOffs 19 1) [.int .u8 0, .int .u8 0, .int .u8 0, .int .u8 0, .int .u8 0, .int .u8 0, .int .u8 0, .int .u8 0, .int .u8 0, .int .u8 0, .int .u8 0, .int .u8 0, .int .u8 0, .int .u8 0, .int .u8 0, .int .u8 0, .int .u8 0, .int .u8 0, .int .u8 0] := ⟨fun i => some (i * 1, 1), fun _ => by kernel_rfl, arrOffs_at 19 1⟩
instance : ZeroT Tryd.prog 92 [.int .u8 0, .int .u8 0, .int .u8 0, .int .u8 0, .int .u8 0, .int .u8 0, .int .u8 0, .int .u8 0, .int .u8 0, .int .u8 0, .int .u8 0, .int .u8 0, .int .u8 0, .int .u8 0, .int .u8 0, .int .u8 0, .int .u8 0, .int .u8 0, .int .u8 0] := ⟨_, show still Tryd.prog (zeroValue 92) = some (.agg (List.toArray [.int .u8 0, .int .u8 0, .int .u8 0, .int .u8 0, .int .u8 0, .int .u8 0, .int .u8 0, .int .u8 0, .int .u8 0, .int .u8 0, .int .u8 0, .int .u8 0, .int .u8 0, .int .u8 0, .int .u8 0, .int .u8 0, .int .u8 0, .int .u8 0, .int .u8 0])) by kernel_rfl, .agg _⟩
instance : Ag Tryd.prog 93 38 := ⟨_, Tryd.underlying93, rfl, by kernel_rfl⟩
instance : FieldAt Tryd.prog 93 0 0 := ⟨_, _, 18, Tryd.underlying93, rfl, rfl, by kernel_rfl⟩
instance : FieldAt Tryd.prog 93 1 19 := ⟨_, _, 18, Tryd.underlying93, rfl, rfl, by kernel_rfl⟩
instance : OffsT Tryd.prog 93 [(0, 19), (19, 19)] [.int .u8 0, .int .u8 0, .int .u8 0, .int .u8 0, .int .u8 0, .int .u8 0, .int .u8 0, .int .u8 0, .int .u8 0, .int .u8 0, .int .u8 0, .int .u8 0, .int .u8 0, .int .u8 0, .int .u8 0, .int .u8 0, .int .u8 0, .int .u8 0, .int .u8 0, .int .u8 0, .int .u8 0, .int .u8 0, .int .u8 0, .int .u8 0, .int .u8 0, .int .u8 0, .int .u8 0, .int .u8 0, .int .u8 0, .int .u8 0, .int .u8 0, .int .u8 0, .int .u8 0, .int .u8 0, .int .u8 0, .int .u8 0, .int .u8 0, .int .u8 0] := ⟨(([(0, 19), (19, 19)] : List (Nat × Nat)).toArray[·]?), fun _ => by kernel_rfl, fun i p h => by simpa using h⟩
instance : ZeroT Tryd.prog 93 [.int .u8 0, .int .u8 0, .int .u8 0, .int .u8 0, .int .u8 0, .int .u8 0, .int .u8 0, .int .u8 0, .int .u8 0, .int .u8 0, .int .u8 0, .int .u8 0, .int .u8 0, .int .u8 0, .int .u8 0, .int .u8 0, .int .u8 0, .int .u8 0, .int .u8 0, .int .u8 0, .int .u8 0, .int .u8 0, .int .u8 0, .int .u8 0, .int .u8 0, .int .u8 0, .int .u8 0, .int .u8 0, .int .u8 0, .int .u8 0, .int .u8 0, .int .u8 0, .int .u8 0, .int .u8 0, .int .u8 0, .int .u8 0, .int .u8 0, .int .u8 0] := ⟨_, show still Tryd.prog (zeroValue 93) = some (.agg (List.toArray [.int .u8 0, .int .u8 0, .int .u8 0, .int .u8 0, .int .u8 0, .int .u8 0, .int .u8 0, .int .u8 0, .int .u8 0, .int .u8 0, .int .u8 0, .int .u8 0, .int .u8 0, .int .u8 0, .int .u8 0, .int .u8 0, .int .u8 0, .int .u8 0, .int .u8 0, .int .u8 0, .int .u8 0, .int .u8 0, .int .u8 0, .int .u8 0, .int .u8 0, .int .u8 0, .int .u8 0, .int .u8 0, .int .u8 0, .int .u8 0, .int .u8 0, .int .u8 0, .int .u8 0, .int .u8 0, .int .u8 0, .int .u8 0, .int .u8 0, .int .u8 0])) by kernel_rfl, .agg _⟩
instance : Ag Tryd.prog 94 38 := ⟨_, Tryd.underlying94, rfl, by kernel_rfl⟩
instance : FieldAt Tryd.prog 94 0 0 := ⟨_, _, 18, Tryd.underlying94, rfl, rfl, by kernel_rfl⟩
instance : FieldAt Tryd.prog 94 1 19 := ⟨_, _, 18, Tryd.underlying94, rfl, rfl, by kernel_rfl⟩
instance : OffsT Tryd.prog 94 [(0, 19), (19, 19)] [.int .u8 0, .int .u8 0, .int .u8 0, .int .u8 0, .int .u8 0, .int .u8 0, .int .u8 0, .int .u8 0, .int .u8 0, .int .u8 0, .int .u8 0, .int .u8 0, .int .u8 0, .int .u8 0, .int .u8 0, .int .u8 0, .int .u8 0, .int .u8 0, .int .u8 0, .int .u8 0, .int .u8 0, .int .u8 0, .int .u8 0, .int .u8 0, .int .u8 0, .int .u8 0, .int .u8 0, .int .u8 0, .int .u8 0, .int .u8 0, .int .u8 0, .int .u8 0, .int .u8 0, .int .u8 0, .int .u8 0, .int .u8 0, .int .u8 0, .int .u8 0] := ⟨(([(0, 19), (19, 19)] : List (Nat × Nat)).toArray[·]?), fun _ => by kernel_rfl, fun i p h => by simpa using h⟩
instance : ZeroT Tryd.prog 94 [.int .u8 0, .int .u8 0, .int .u8 0, .int .u8 0, .int .u8 0, .int .u8 0, .int .u8 0, .int .u8 0, .int .u8 0, .int .u8 0, .int .u8 0, .int .u8 0, .int .u8 0, .int .u8 0, .int .u8 0, .int .u8 0, .int .u8 0, .int .u8 0, .int .u8 0, .int .u8 0, .int .u8 0, .int .u8 0, .int .u8 0, .int .u8 0, .int .u8 0, .int .u8 0, .int .u8 0, .int .u8 0, .int .u8 0, .int .u8 0, .int .u8 0, .int .u8 0, .int .u8 0, .int .u8 0, .int .u8 0, .int .u8 0, .int .u8 0, .int .u8 0] := ⟨_, show still Tryd.prog (zeroValue 94) = some (.agg (List.toArray [.int .u8 0, .int .u8 0, .int .u8 0, .int .u8 0, .int .u8 0, .int .u8 0, .int .u8 0, .int .u8 0, .int .u8 0, .int .u8 0, .int .u8 0, .int .u8 0, .int .u8 0, .int .u8 0, .int .u8 0, .int .u8 0, .int .u8 0, .int .u8 0, .int .u8 0, .int .u8 0, .int .u8 0, .int .u8 0, .int .u8 0, .int .u8 0, .int .u8 0, .int .u8 0, .int .u8 0, .int .u8 0, .int .u8 0, .int .u8 0, .int .u8 0, .int .u8 0, .int .u8 0, .int .u8 0, .int .u8 0, .int .u8 0, .int .u8 0, .int .u8 0])) by kernel_rfl, .agg _⟩
instance : Ag Tryd.prog 95 4 := ⟨_, Tryd.underlying95, rfl, by kernel_rfl⟩
instance : FieldAt Tryd.prog 95 0 0 := ⟨_, _, 3, Tryd.underlying95, rfl, rfl, by kernel_rfl⟩
instance : OffsT Tryd.prog 95 [(0, 4)] [.int .u64 0, .int .u64 0, .int .u64 0, .int .u64 0] := ⟨(([(0, 4)] : List (Nat × Nat)).toArray[·]?), fun _ => by kernel_rfl, fun i p h => by simpa using h⟩
instance : ZeroT Tryd.prog 95 [.int .u64 0, .int .u64 0, .int .u64 0, .int .u64 0] := ⟨_, show still Tryd.prog (zeroValue 95) = some (.agg (List.toArray [.int .u64 0, .int .u64 0, .int .u64 0, .int .u64 0])) by kernel_rfl, .agg _⟩
instance : Ag Tryd.prog 96 2 := ⟨_, Tryd.underlying96, rfl, by kernel_rfl⟩
instance : FieldAt Tryd.prog 96 0 0 := ⟨_, _, 0, Tryd.underlying96, rfl, rfl, by kernel_rfl⟩
instance : FieldAt Tryd.prog 96 1 1 := ⟨_, _, 0, Tryd.underlying96, rfl, rfl, by kernel_rfl⟩
instance : OffsT Tryd.prog 96 [(0, 1), (1, 1)] [.string .empty, .bool false] := ⟨(([(0, 1), (1, 1)] : List (Nat × Nat)).toArray[·]?), fun _ => by kernel_rfl, fun i p h => by simpa using h⟩
instance : ZeroT Tryd.prog 96 [.string .empty, .bool false] := ⟨_, show still Tryd.prog (zeroValue 96) = some (.agg (List.toArray [.string .empty, .bool false])) by kernel_rfl, .agg _⟩
instance : Ag Tryd.prog 97 2 := ⟨_, Tryd.underlying97, rfl, by kernel_rfl⟩
instance : FieldAt Tryd.prog 97 0 0 := ⟨_, _, 0, Tryd.underlying97, rfl, rfl, by kernel_rfl⟩
instance : FieldAt Tryd.prog 97 1 1 := ⟨_, _, 0, Tryd.underlying97, rfl, rfl, by kernel_rfl⟩
instance : OffsT Tryd.prog 97 [(0, 1), (1, 1)] [.string .empty, .bool false] := ⟨(([(0, 1), (1, 1)] : List (Nat × Nat)).toArray[·]?), fun _ => by kernel_rfl, fun i p h => by simpa using h⟩
instance : ZeroT Tryd.prog 97 [.string .empty, .bool false] := ⟨_, show still Tryd.prog (zeroValue 97) = some (.agg (List.toArray [.string .empty, .bool false])) by kernel_rfl, .agg _⟩
instance : Ag Tryd.prog 98 613 := ⟨_, Tryd.underlying98, rfl, by kernel_rfl⟩
instance : FieldAt Tryd.prog 98 0 0 := ⟨_, _, 4, Tryd.underlying98, rfl, rfl, by kernel_rfl⟩
instance : FieldAt Tryd.prog 98 1 5 := ⟨_, _, 0, Tryd.underlying98, rfl, rfl, by kernel_rfl⟩
instance : FieldAt Tryd.prog 98 2 6 := ⟨_, _, 0, Tryd.underlying98, rfl, rfl, by kernel_rfl⟩
instance : FieldAt Tryd.prog 98 3 7 := ⟨_, _, 4, Tryd.underlying98, rfl, rfl, by kernel_rfl⟩
instance : FieldAt Tryd.prog 98 4 12 := ⟨_, _, 32, Tryd.underlying98, rfl, rfl, by kernel_rfl⟩
instance : FieldAt Tryd.prog 98 5 45 := ⟨_, _, 519, Tryd.underlying98, rfl, rfl, by kernel_rfl⟩
instance : FieldAt Tryd.prog 98 6 565 := ⟨_, _, 1, Tryd.underlying98, rfl, rfl, by kernel_rfl⟩
instance : FieldAt Tryd.prog 98 7 567 := ⟨_, _, 0, Tryd.underlying98, rfl, rfl, by kernel_rfl⟩
instance : FieldAt Tryd.prog 98 8 568 := ⟨_, _, 37, Tryd.underlying98, rfl, rfl, by kernel_rfl⟩
instance : FieldAt Tryd.prog 98 9 606 := ⟨_, _, 3, Tryd.underlying98, rfl, rfl, by kernel_rfl⟩
instance : FieldAt Tryd.prog 98 10 610 := ⟨_, _, 1, Tryd.underlying98, rfl, rfl, by kernel_rfl⟩
instance : FieldAt Tryd.prog 98 11 612 := ⟨_, _, 0, Tryd.underlying98, rfl, rfl, by kernel_rfl⟩
instance : Ag Tryd.prog 99 613 := ⟨_, Tryd.underlying99, rfl, by kernel_rfl⟩
instance : FieldAt Tryd.prog 99 0 0 := ⟨_, _, 4, Tryd.underlying99, rfl, rfl, by kernel_rfl⟩
instance : FieldAt Tryd.prog 99 1 5 := ⟨_, _, 0, Tryd.underlying99, rfl, rfl, by kernel_rfl⟩
instance : FieldAt Tryd.prog 99 2 6 := ⟨_, _, 0, Tryd.underlying99, rfl, rfl, by kernel_rfl⟩
instance : FieldAt Tryd.prog 99 3 7 := ⟨_, _, 4, Tryd.underlying99, rfl, rfl, by kernel_rfl⟩
instance : FieldAt Tryd.prog 99 4 12 := ⟨_, _, 32, Tryd.underlying99, rfl, rfl, by kernel_rfl⟩
instance : FieldAt Tryd.prog 99 5 45 := ⟨_, _, 519, Tryd.underlying99, rfl, rfl, by kernel_rfl⟩
instance : FieldAt Tryd.prog 99 6 565 := ⟨_, _, 1, Tryd.underlying99, rfl, rfl, by kernel_rfl⟩
instance : FieldAt Tryd.prog 99 7 567 := ⟨_, _, 0, Tryd.underlying99, rfl, rfl, by kernel_rfl⟩
instance : FieldAt Tryd.prog 99 8 568 := ⟨_, _, 37, Tryd.underlying99, rfl, rfl, by kernel_rfl⟩
instance : FieldAt Tryd.prog 99 9 606 := ⟨_, _, 3, Tryd.underlying99, rfl, rfl, by kernel_rfl⟩
instance : FieldAt Tryd.prog 99 10 610 := ⟨_, _, 1, Tryd.underlying99, rfl, rfl, by kernel_rfl⟩
instance : FieldAt Tryd.prog 99 11 612 := ⟨_, _, 0, Tryd.underlying99, rfl, rfl, by kernel_rfl⟩
instance : Sc Tryd.prog 101 := ⟨_, Tryd.underlying101, rfl, by kernel_rfl⟩
instance : ZeroT Tryd.prog 101 [.nilFunc] := ⟨.nilFunc, by kernel_rfl, .one rfl⟩
instance : Sc Tryd.prog 102 := ⟨_, Tryd.underlying102, rfl, by kernel_rfl⟩
instance : ZeroT Tryd.prog 102 [.nilFunc] := ⟨.nilFunc, by kernel_rfl, .one rfl⟩
instance : Sc Tryd.prog 103 := ⟨_, Tryd.underlying103, rfl, by kernel_rfl⟩
instance : ZeroT Tryd.prog 103 [.nilFunc] := ⟨.nilFunc, by kernel_rfl, .one rfl⟩
instance : Sc Tryd.prog 105 := ⟨_, Tryd.underlying105, rfl, by kernel_rfl⟩
instance : ZeroT Tryd.prog 105 [.nilFunc] := ⟨.nilFunc, by kernel_rfl, .one rfl⟩
instance : Sc Tryd.prog 106 := ⟨_, Tryd.underlying106, rfl, by kernel_rfl⟩
instance : ZeroT Tryd.prog 106 [.nilFunc] := ⟨.nilFunc, by kernel_rfl, .one rfl⟩
instance : Sc Tryd.prog 107 := ⟨_, Tryd.underlying107, rfl, by kernel_rfl⟩
instance : ZeroT Tryd.prog 107 [.nilFunc] := ⟨.nilFunc, by kernel_rfl, .one rfl⟩
instance : Sc Tryd.prog 108 := ⟨_, Tryd.underlying108, rfl, by kernel_rfl⟩
instance : ZeroT Tryd.prog 108 [.nilFunc] := ⟨.nilFunc, by kernel_rfl, .one rfl⟩
instance : Sc Tryd.prog 109 := ⟨_, Tryd.underlying109, rfl, by kernel_rfl⟩
instance : ZeroT Tryd.prog 109 [.slice none 0 0] := ⟨.slice none 0 0, by kernel_rfl, .one rfl⟩
instance : SliceT Tryd.prog 109 118 4 40 := ⟨Tryd.underlying109, by decide, by decide, .agg #[.int .i64 0, .int .i64 0, .int .i64 0, .string .empty], by kernel_rfl, by kernel_rfl⟩
instance : Sc Tryd.prog 111 := ⟨_, Tryd.underlying111, rfl, by kernel_rfl⟩
instance : ZeroT Tryd.prog 111 [.nilFunc] := ⟨.nilFunc, by kernel_rfl, .one rfl⟩
instance : Sc Tryd.prog 112 := ⟨_, Tryd.underlying112, rfl, by kernel_rfl⟩
instance : ZeroT Tryd.prog 112 [.nilFunc] := ⟨.nilFunc, by kernel_rfl, .one rfl⟩
instance : Sc Tryd.prog 113 := ⟨_, Tryd.underlying113, rfl, by kernel_rfl⟩
instance : ZeroT Tryd.prog 113 [.nilFunc] := ⟨.nilFunc, by kernel_rfl, .one rfl⟩
instance : Sc Tryd.prog 115 := ⟨_, Tryd.underlying115, rfl, by kernel_rfl⟩
instance : ZeroT Tryd.prog 115 [.nilFunc] := ⟨.nilFunc, by kernel_rfl, .one rfl⟩
instance : Sc Tryd.prog 116 := ⟨_, Tryd.underlying116, rfl, by kernel_rfl⟩
instance : ZeroT Tryd.prog 116 [.nilFunc] := ⟨.nilFunc, by kernel_rfl, .one rfl⟩
instance : Ag Tryd.prog 117 4 := ⟨_, Tryd.underlying117, rfl, by kernel_rfl⟩
instance : FieldAt Tryd.prog 117 0 0 := ⟨_, _, 0, Tryd.underlying117, rfl, rfl, by kernel_rfl⟩
instance : FieldAt Tryd.prog 117 1 1 := ⟨_, _, 0, Tryd.underlying117, rfl, rfl, by kernel_rfl⟩
instance : FieldAt Tryd.prog 117 2 2 := ⟨_, _, 0, Tryd.underlying117, rfl, rfl, by kernel_rfl⟩
instance : FieldAt Tryd.prog 117 3 3 := ⟨_, _, 0, Tryd.underlying117, rfl, rfl, by kernel_rfl⟩
instance : OffsT Tryd.prog 117 [(0, 1), (1, 1), (2, 1), (3, 1)] [.int .i64 0, .int .i64 0, .int .i64 0, .string .empty] := ⟨(([(0, 1), (1, 1), (2, 1), (3, 1)] : List (Nat × Nat)).toArray[·]?), fun _ => by kernel_rfl, fun i p h => by simpa using h⟩
instance : ZeroT Tryd.prog 117 [.int .i64 0, .int .i64 0, .int .i64 0, .string .empty] := ⟨_, show still Tryd.prog (zeroValue 117) = some (.agg (List.toArray [.int .i64 0, .int .i64 0, .int .i64 0, .string .empty])) by kernel_rfl, .agg _⟩
instance : Ag Tryd.prog 118 4 := ⟨_, Tryd.underlying118, rfl, by kernel_rfl⟩
instance : FieldAt Tryd.prog 118 0 0 := ⟨_, _, 0, Tryd.underlying118, rfl, rfl, by kernel_rfl⟩
instance : FieldAt Tryd.prog 118 1 1 := ⟨_, _, 0, Tryd.underlying118, rfl, rfl, by kernel_rfl⟩
instance : FieldAt Tryd.prog 118 2 2 := ⟨_, _, 0, Tryd.underlying118, rfl, rfl, by kernel_rfl⟩
instance : FieldAt Tryd.prog 118 3 3 := ⟨_, _, 0, Tryd.underlying118, rfl, rfl, by kernel_rfl⟩
instance : OffsT Tryd.prog 118 [(0, 1), (1, 1), (2, 1), (3, 1)] [.int .i64 0, .int .i64 0, .int .i64 0, .string .empty] := ⟨(([(0, 1), (1, 1), (2, 1), (3, 1)] : List (Nat × Nat)).toArray[·]?), fun _ => by kernel_rfl, fun i p h => by simpa using h⟩
instance : ZeroT Tryd.prog 118 [.int .i64 0, .int .i64 0, .int .i64 0, .string .empty] := ⟨_, show still Tryd.prog (zeroValue 118) = some (.agg (List.toArray [.int .i64 0, .int .i64 0, .int .i64 0, .string .empty])) by kernel_rfl, .agg _⟩
instance : Sc Tryd.prog 119 := ⟨_, Tryd.underlying119, rfl, by kernel_rfl⟩
instance : ZeroT Tryd.prog 119 [.nilFunc] := ⟨.nilFunc, by kernel_rfl, .one rfl⟩
instance : Sc Tryd.prog 120 := ⟨_, Tryd.underlying120, rfl, by kernel_rfl⟩
instance : ZeroT Tryd.prog 120 [.nilFunc] := ⟨.nilFunc, by kernel_rfl, .one rfl⟩
instance : Sc Tryd.prog 121 := ⟨_, Tryd.underlying121, rfl, by kernel_rfl⟩
instance : ZeroT Tryd.prog 121 [.nilFunc] := ⟨.nilFunc, by kernel_rfl, .one rfl⟩
instance : Sc Tryd.prog 122 := ⟨_, Tryd.underlying122, rfl, by kernel_rfl⟩
instance : ZeroT Tryd.prog 122 [.pointer none] := ⟨.pointer none, by kernel_rfl, .one rfl⟩
instance : Ag Tryd.prog 123 6 := ⟨_, Tryd.underlying123, rfl, by kernel_rfl⟩
instance : FieldAt Tryd.prog 123 0 0 := ⟨_, _, 4, Tryd.underlying123, rfl, rfl, by kernel_rfl⟩
instance : FieldAt Tryd.prog 123 1 5 := ⟨_, _, 0, Tryd.underlying123, rfl, rfl, by kernel_rfl⟩
instance : OffsT Tryd.prog 123 [(0, 5), (5, 1)] [.int .i64 0, .int .i64 0, .string .empty, .string .empty, .string .empty, .slice none 0 0] := ⟨(([(0, 5), (5, 1)] : List (Nat × Nat)).toArray[·]?), fun _ => by kernel_rfl, fun i p h => by simpa using h⟩
instance : ZeroT Tryd.prog 123 [.int .i64 0, .int .i64 0, .string .empty, .string .empty, .string .empty, .slice none 0 0] := ⟨_, show still Tryd.prog (zeroValue 123) = some (.agg (List.toArray [.int .i64 0, .int .i64 0, .string .empty, .string .empty, .string .empty, .slice none 0 0])) by kernel_rfl, .agg _⟩
instance : Ag Tryd.prog 124 6 := ⟨_, Tryd.underlying124, rfl, by kernel_rfl⟩
instance : FieldAt Tryd.prog 124 0 0 := ⟨_, _, 4, Tryd.underlying124, rfl, rfl, by kernel_rfl⟩
instance : FieldAt Tryd.prog 124 1 5 := ⟨_, _, 0, Tryd.underlying124, rfl, rfl, by kernel_rfl⟩
instance : OffsT Tryd.prog 124 [(0, 5), (5, 1)] [.int .i64 0, .int .i64 0, .string .empty, .string .empty, .string .empty, .slice none 0 0] := ⟨(([(0, 5), (5, 1)] : List (Nat × Nat)).toArray[·]?), fun _ => by kernel_rfl, fun i p h => by simpa using h⟩
instance : ZeroT Tryd.prog 124 [.int .i64 0, .int .i64 0, .string .empty, .string .empty, .string .empty, .slice none 0 0] := ⟨_, show still Tryd.prog (zeroValue 124) = some (.agg (List.toArray [.int .i64 0, .int .i64 0, .string .empty, .string .empty, .string .empty, .slice none 0 0])) by kernel_rfl, .agg _⟩
instance : Sc Tryd.prog 125 := ⟨_, Tryd.underlying125, rfl, by kernel_rfl⟩
instance : ZeroT Tryd.prog 125 [.nilFunc] := ⟨.nilFunc, by kernel_rfl, .one rfl⟩
instance : Sc Tryd.prog 126 := ⟨_, Tryd.underlying126, rfl, by kernel_rfl⟩
instance : ZeroT Tryd.prog 126 [.slice none 0 0] := ⟨.slice none 0 0, by kernel_rfl, .one rfl⟩
instance : SliceT Tryd.prog 126 5 1 1 := ⟨Tryd.underlying126, by decide, by decide, .int .u8 0, by kernel_rfl, by kernel_rfl⟩
instance : Sc Tryd.prog 127 := ⟨_, Tryd.underlying127, rfl, by kernel_rfl⟩
instance : ZeroT Tryd.prog 127 [.nilFunc] := ⟨.nilFunc, by kernel_rfl, .one rfl⟩
instance : Sc Tryd.prog 128 := ⟨_, Tryd.underlying128, rfl, by kernel_rfl⟩
instance : ZeroT Tryd.prog 128 [.nilFunc] := ⟨.nilFunc, by kernel_rfl, .one rfl⟩
instance : Sc Tryd.prog 129 := ⟨_, Tryd.underlying129, rfl, by kernel_rfl⟩
instance : ZeroT Tryd.prog 129 [.nilFunc] := ⟨.nilFunc, by kernel_rfl, .one rfl⟩
instance : Sc Tryd.prog 130 := ⟨_, Tryd.underlying130, rfl, by kernel_rfl⟩
instance : ZeroT Tryd.prog 130 [.nilFunc] := ⟨.nilFunc, by kernel_rfl, .one rfl⟩
instance : Sc Tryd.prog 131 := ⟨_, Tryd.underlying131, rfl, by kernel_rfl⟩
instance : ZeroT Tryd.prog 131 [.nilFunc] := ⟨.nilFunc, by kernel_rfl, .one rfl⟩
instance : Sc Tryd.prog 132 := ⟨_, Tryd.underlying132, rfl, by kernel_rfl⟩
instance : ZeroT Tryd.prog 132 [.nilFunc] := ⟨.nilFunc, by kernel_rfl, .one rfl⟩
instance : Sc Tryd.prog 133 := ⟨_, Tryd.underlying133, rfl, by kernel_rfl⟩
instance : ZeroT Tryd.prog 133 [.nilFunc] := ⟨.nilFunc, by kernel_rfl, .one rfl⟩
instance : Sc Tryd.prog 134 := ⟨_, Tryd.underlying134, rfl, by kernel_rfl⟩
instance : ZeroT Tryd.prog 134 [.nilFunc] := ⟨.nilFunc, by kernel_rfl, .one rfl⟩
instance : Sc Tryd.prog 135 := ⟨_, Tryd.underlying135, rfl, by kernel_rfl⟩
instance : ZeroT Tryd.prog 135 [.nilFunc] := ⟨.nilFunc, by kernel_rfl, .one rfl⟩
instance : Sc Tryd.prog 136 := ⟨_, Tryd.underlying136, rfl, by kernel_rfl⟩
instance : ZeroT Tryd.prog 136 [.nilFunc] := ⟨.nilFunc, by kernel_rfl, .one rfl⟩
instance : Sc Tryd.prog 137 := ⟨_, Tryd.underlying137, rfl, by kernel_rfl⟩
instance : ZeroT Tryd.prog 137 [.nilFunc] := ⟨.nilFunc, by kernel_rfl, .one rfl⟩
instance : Sc Tryd.prog 138 := ⟨_, Tryd.underlying138, rfl, by kernel_rfl⟩
instance : ZeroT Tryd.prog 138 [.nilFunc] := ⟨.nilFunc, by kernel_rfl, .one rfl⟩
instance : Sc Tryd.prog 139 := ⟨_, Tryd.underlying139, rfl, by kernel_rfl⟩
instance : ZeroT Tryd.prog 139 [.nilFunc] := ⟨.nilFunc, by kernel_rfl, .one rfl⟩
instance : Sc Tryd.prog 140 := ⟨_, Tryd.underlying140, rfl, by kernel_rfl⟩
instance : ZeroT Tryd.prog 140 [.nilFunc] := ⟨.nilFunc, by kernel_rfl, .one rfl⟩
instance : Sc Tryd.prog 141 := ⟨_, Tryd.underlying141, rfl, by kernel_rfl⟩
instance : ZeroT Tryd.prog 141 [.nilFunc] := ⟨.nilFunc, by kernel_rfl, .one rfl⟩
instance : Sc Tryd.prog 142 := ⟨_, Tryd.underlying142, rfl, by kernel_rfl⟩
instance : ZeroT Tryd.prog 142 [.nilFunc] := ⟨.nilFunc, by kernel_rfl, .one rfl⟩
instance : Ag Tryd.prog 143 3 := ⟨_, Tryd.underlying143, rfl, by kernel_rfl⟩
instance : ArrT Tryd.prog 143 3 3 1 := ⟨Tryd.underlying143, by kernel_rfl⟩
instance : OffsT Tryd.prog 143 (arrOffs 3 1) [.int .i64 0, .int .i64 0, .int .i64 0] := ⟨fun i => some (i * 1, 1), fun _ => by kernel_rfl, arrOffs_at 3 1⟩
instance : ZeroT Tryd.prog 143 [.int .i64 0, .int .i64 0, .int .i64 0] := ⟨_, show still Tryd.prog (zeroValue 143) = some (.agg (List.toArray [.int .i64 0, .int .i64 0, .int .i64 0])) by kernel_rfl, .agg _⟩
instance : Sc Tryd.prog 144 := ⟨_, Tryd.underlying144, rfl, by kernel_rfl⟩
instance : ZeroT Tryd.prog 144 [.nilIface] := ⟨.nilIface, by kernel_rfl, .one rfl⟩
instance : Sc Tryd.prog 145 := ⟨_, Tryd.underlying145, rfl, by kernel_rfl⟩
instance : ZeroT Tryd.prog 145 [.nilIface] := ⟨.nilIface, by kernel_rfl, .one rfl⟩
instance : Sc Tryd.prog 147 := ⟨_, Tryd.underlying147, rfl, by kernel_rfl⟩
instance : ZeroT Tryd.prog 147 [.nilFunc] := ⟨.nilFunc, by kernel_rfl, .one rfl⟩
instance : Sc Tryd.prog 148 := ⟨_, Tryd.underlying148, rfl, by kernel_rfl⟩
instance : ZeroT Tryd.prog 148 [.int .u64 0] := ⟨.int .u64 0, by kernel_rfl, .one rfl⟩
instance : IntT Tryd.prog 148 .u64 := ⟨Tryd.underlying148⟩
instance : Sc Tryd.prog 150 := ⟨_, Tryd.underlying150, rfl, by kernel_rfl⟩
instance : ZeroT Tryd.prog 150 [.nilFunc] := ⟨.nilFunc, by kernel_rfl, .one rfl⟩
instance : Sc Tryd.prog 152 := ⟨_, Tryd.underlying152, rfl, by kernel_rfl⟩
instance : ZeroT Tryd.prog 152 [.nilFunc] := ⟨.nilFunc, by kernel_rfl, .one rfl⟩
instance : Sc Tryd.prog 153 := ⟨_, Tryd.underlying153, rfl, by kernel_rfl⟩
instance : ZeroT Tryd.prog 153 [.nilFunc] := ⟨.nilFunc, by kernel_rfl, .one rfl⟩
instance : Sc Tryd.prog 154 := ⟨_, Tryd.underlying154, rfl, by kernel_rfl⟩
instance : ZeroT Tryd.prog 154 [.nilFunc] := ⟨.nilFunc, by kernel_rfl, .one rfl⟩
instance : Sc Tryd.prog 155 := ⟨_, Tryd.underlying155, rfl, by kernel_rfl⟩
instance : ZeroT Tryd.prog 155 [.nilFunc] := ⟨.nilFunc, by kernel_rfl, .one rfl⟩
instance : Sc Tryd.prog 156 := ⟨_, Tryd.underlying156, rfl, by kernel_rfl⟩
instance : ZeroT Tryd.prog 156 [.nilFunc] := ⟨.nilFunc, by kernel_rfl, .one rfl⟩
instance : Sc Tryd.prog 158 := ⟨_, Tryd.underlying158, rfl, by kernel_rfl⟩
instance : ZeroT Tryd.prog 158 [.nilFunc] := ⟨.nilFunc, by kernel_rfl, .one rfl⟩
instance : Sc Tryd.prog 160 := ⟨_, Tryd.underlying160, rfl, by kernel_rfl⟩
instance : ZeroT Tryd.prog 160 [.nilFunc] := ⟨.nilFunc, by kernel_rfl, .one rfl⟩
instance : Sc Tryd.prog 161 := ⟨_, Tryd.underlying161, rfl, by kernel_rfl⟩
instance : ZeroT Tryd.prog 161 [.nilFunc] := ⟨.nilFunc, by kernel_rfl, .one rfl⟩
instance : Sc Tryd.prog 162 := ⟨_, Tryd.underlying162, rfl, by kernel_rfl⟩
instance : ZeroT Tryd.prog 162 [.nilFunc] := ⟨.nilFunc, by kernel_rfl, .one rfl⟩
instance : Sc Tryd.prog 163 := ⟨_, Tryd.underlying163, rfl, by kernel_rfl⟩
instance : ZeroT Tryd.prog 163 [.nilFunc] := ⟨.nilFunc, by kernel_rfl, .one rfl⟩
instance : Sc Tryd.prog 165 := ⟨_, Tryd.underlying165, rfl, by kernel_rfl⟩
instance : ZeroT Tryd.prog 165 [.nilFunc] := ⟨.nilFunc, by kernel_rfl, .one rfl⟩
instance : Sc Tryd.prog 166 := ⟨_, Tryd.underlying166, rfl, by kernel_rfl⟩
instance : ZeroT Tryd.prog 166 [.nilFunc] := ⟨.nilFunc, by kernel_rfl, .one rfl⟩
instance : Sc Tryd.prog 167 := ⟨_, Tryd.underlying167, rfl, by kernel_rfl⟩
instance : ZeroT Tryd.prog 167 [.nilFunc] := ⟨.nilFunc, by kernel_rfl, .one rfl⟩
instance : Sc Tryd.prog 168 := ⟨_, Tryd.underlying168, rfl, by kernel_rfl⟩
instance : ZeroT Tryd.prog 168 [.nilFunc] := ⟨.nilFunc, by kernel_rfl, .one rfl⟩
instance : Sc Tryd.prog 169 := ⟨_, Tryd.underlying169, rfl, by kernel_rfl⟩
instance : ZeroT Tryd.prog 169 [.map none] := ⟨.map none, by kernel_rfl, .one rfl⟩
instance : Sc Tryd.prog 170 := ⟨_, Tryd.underlying170, rfl, by kernel_rfl⟩
instance : ZeroT Tryd.prog 170 [.nilFunc] := ⟨.nilFunc, by kernel_rfl, .one rfl⟩
instance : Sc Tryd.prog 171 := ⟨_, Tryd.underlying171, rfl, by kernel_rfl⟩
instance : ZeroT Tryd.prog 171 [.nilFunc] := ⟨.nilFunc, by kernel_rfl, .one rfl⟩
instance : Sc Tryd.prog 172 := ⟨_, Tryd.underlying172, rfl, by kernel_rfl⟩
instance : ZeroT Tryd.prog 172 [.pointer none] := ⟨.pointer none, by kernel_rfl, .one rfl⟩
instance : Ag Tryd.prog 173 46 := ⟨_, Tryd.underlying173, rfl, by kernel_rfl⟩
instance : FieldAt Tryd.prog 173 0 0 := ⟨_, _, 0, Tryd.underlying173, rfl, rfl, by kernel_rfl⟩
instance : FieldAt Tryd.prog 173 1 1 := ⟨_, _, 0, Tryd.underlying173, rfl, rfl, by kernel_rfl⟩
instance : FieldAt Tryd.prog 173 2 2 := ⟨_, _, 37, Tryd.underlying173, rfl, rfl, by kernel_rfl⟩
instance : FieldAt Tryd.prog 173 3 40 := ⟨_, _, 3, Tryd.underlying173, rfl, rfl, by kernel_rfl⟩
instance : FieldAt Tryd.prog 173 4 44 := ⟨_, _, 0, Tryd.underlying173, rfl, rfl, by kernel_rfl⟩
instance : FieldAt Tryd.prog 173 5 45 := ⟨_, _, 0, Tryd.underlying173, rfl, rfl, by kernel_rfl⟩
instance : Ag Tryd.prog 174 46 := ⟨_, Tryd.underlying174, rfl, by kernel_rfl⟩
instance : FieldAt Tryd.prog 174 0 0 := ⟨_, _, 0, Tryd.underlying174, rfl, rfl, by kernel_rfl⟩
instance : FieldAt Tryd.prog 174 1 1 := ⟨_, _, 0, Tryd.underlying174, rfl, rfl, by kernel_rfl⟩
instance : FieldAt Tryd.prog 174 2 2 := ⟨_, _, 37, Tryd.underlying174, rfl, rfl, by kernel_rfl⟩
instance : FieldAt Tryd.prog 174 3 40 := ⟨_, _, 3, Tryd.underlying174, rfl, rfl, by kernel_rfl⟩
instance : FieldAt Tryd.prog 174 4 44 := ⟨_, _, 0, Tryd.underlying174, rfl, rfl, by kernel_rfl⟩
instance : FieldAt Tryd.prog 174 5 45 := ⟨_, _, 0, Tryd.underlying174, rfl, rfl, by kernel_rfl⟩
instance : Sc Tryd.prog 175 := ⟨_, Tryd.underlying175, rfl, by kernel_rfl⟩
instance : ZeroT Tryd.prog 175 [.nilFunc] := ⟨.nilFunc, by kernel_rfl, .one rfl⟩
instance : Sc Tryd.prog 177 := ⟨_, Tryd.underlying177, rfl, by kernel_rfl⟩
instance : ZeroT Tryd.prog 177 [.nilFunc] := ⟨.nilFunc, by kernel_rfl, .one rfl⟩
instance : Sc Tryd.prog 178 := ⟨_, Tryd.underlying178, rfl, by kernel_rfl⟩
instance : ZeroT Tryd.prog 178 [.pointer none] := ⟨.pointer none, by kernel_rfl, .one rfl⟩
instance : Ag Tryd.prog 179 8 := ⟨_, Tryd.underlying179, rfl, by kernel_rfl⟩
instance : FieldAt Tryd.prog 179 0 0 := ⟨_, _, 4, Tryd.underlying179, rfl, rfl, by kernel_rfl⟩
instance : FieldAt Tryd.prog 179 1 5 := ⟨_, _, 0, Tryd.underlying179, rfl, rfl, by kernel_rfl⟩
instance : FieldAt Tryd.prog 179 2 6 := ⟨_, _, 0, Tryd.underlying179, rfl, rfl, by kernel_rfl⟩
instance : FieldAt Tryd.prog 179 3 7 := ⟨_, _, 0, Tryd.underlying179, rfl, rfl, by kernel_rfl⟩
instance : OffsT Tryd.prog 179 [(0, 5), (5, 1), (6, 1), (7, 1)] [.int .i64 0, .int .i64 0, .int .i64 0, .string .empty, .bool false, .slice none 0 0, .slice none 0 0, .slice none 0 0] := ⟨(([(0, 5), (5, 1), (6, 1), (7, 1)] : List (Nat × Nat)).toArray[·]?), fun _ => by kernel_rfl, fun i p h => by simpa using h⟩
instance : ZeroT Tryd.prog 179 [.int .i64 0, .int .i64 0, .int .i64 0, .string .empty, .bool false, .slice none 0 0, .slice none 0 0, .slice none 0 0] := ⟨_, show still Tryd.prog (zeroValue 179) = some (.agg (List.toArray [.int .i64 0, .int .i64 0, .int .i64 0, .string .empty, .bool false, .slice none 0 0, .slice none 0 0, .slice none 0 0])) by kernel_rfl, .agg _⟩
instance : Ag Tryd.prog 180 8 := ⟨_, Tryd.underlying180, rfl, by kernel_rfl⟩
instance : FieldAt Tryd.prog 180 0 0 := ⟨_, _, 4, Tryd.underlying180, rfl, rfl, by kernel_rfl⟩
instance : FieldAt Tryd.prog 180 1 5 := ⟨_, _, 0, Tryd.underlying180, rfl, rfl, by kernel_rfl⟩
instance : FieldAt Tryd.prog 180 2 6 := ⟨_, _, 0, Tryd.underlying180, rfl, rfl, by kernel_rfl⟩
instance : FieldAt Tryd.prog 180 3 7 := ⟨_, _, 0, Tryd.underlying180, rfl, rfl, by kernel_rfl⟩
instance : OffsT Tryd.prog 180 [(0, 5), (5, 1), (6, 1), (7, 1)] [.int .i64 0, .int .i64 0, .int .i64 0, .string .empty, .bool false, .slice none 0 0, .slice none 0 0, .slice none 0 0] := ⟨(([(0, 5), (5, 1), (6, 1), (7, 1)] : List (Nat × Nat)).toArray[·]?), fun _ => by kernel_rfl, fun i p h => by simpa using h⟩
instance : ZeroT Tryd.prog 180 [.int .i64 0, .int .i64 0, .int .i64 0, .string .empty, .bool false, .slice none 0 0, .slice none 0 0, .slice none 0 0] := ⟨_, show still Tryd.prog (zeroValue 180) = some (.agg (List.toArray [.int .i64 0, .int .i64 0, .int .i64 0, .string .empty, .bool false, .slice none 0 0, .slice none 0 0, .slice none 0 0])) by kernel_rfl, .agg _⟩
instance : Sc Tryd.prog 181 := ⟨_, Tryd.underlying181, rfl, by kernel_rfl⟩
instance : ZeroT Tryd.prog 181 [.nilFunc] := ⟨.nilFunc, by kernel_rfl, .one rfl⟩
instance : Sc Tryd.prog 182 := ⟨_, Tryd.underlying182, rfl, by kernel_rfl⟩
instance : ZeroT Tryd.prog 182 [.nilFunc] := ⟨.nilFunc, by kernel_rfl, .one rfl⟩
instance : Sc Tryd.prog 184 := ⟨_, Tryd.underlying184, rfl, by kernel_rfl⟩
instance : ZeroT Tryd.prog 184 [.nilFunc] := ⟨.nilFunc, by kernel_rfl, .one rfl⟩
instance : Sc Tryd.prog 185 := ⟨_, Tryd.underlying185, rfl, by kernel_rfl⟩
instance : ZeroT Tryd.prog 185 [.nilFunc] := ⟨.nilFunc, by kernel_rfl, .one rfl⟩
instance : Sc Tryd.prog 186 := ⟨_, Tryd.underlying186, rfl, by kernel_rfl⟩
instance : ZeroT Tryd.prog 186 [.nilFunc] := ⟨.nilFunc, by kernel_rfl, .one rfl⟩
instance : Sc Tryd.prog 187 := ⟨_, Tryd.underlying187, rfl, by kernel_rfl⟩
instance : ZeroT Tryd.prog 187 [.nilFunc] := ⟨.nilFunc, by kernel_rfl, .one rfl⟩
instance : Sc Tryd.prog 188 := ⟨_, Tryd.underlying188, rfl, by kernel_rfl⟩
instance : ZeroT Tryd.prog 188 [.nilFunc] := ⟨.nilFunc, by kernel_rfl, .one rfl⟩
instance : Ag Tryd.prog 189 256 := ⟨_, Tryd.underlying189, rfl, by kernel_rfl⟩
instance : ArrT Tryd.prog 189 256 4 1 := ⟨Tryd.underlying189, by kernel_rfl⟩
instance : Ag Tryd.prog 190 256 := ⟨_, Tryd.underlying190, rfl, by kernel_rfl⟩
instance : ArrT Tryd.prog 190 256 4 1 := ⟨Tryd.underlying190, by kernel_rfl⟩
instance : Sc Tryd.prog 192 := ⟨_, Tryd.underlying192, rfl, by kernel_rfl⟩
instance : ZeroT Tryd.prog 192 [.nilFunc] := ⟨.nilFunc, by kernel_rfl, .one rfl⟩
instance : Sc Tryd.prog 193 := ⟨_, Tryd.underlying193, rfl, by kernel_rfl⟩
instance : ZeroT Tryd.prog 193 [.nilFunc] := ⟨.nilFunc, by kernel_rfl, .one rfl⟩
instance : Sc Tryd.prog 194 := ⟨_, Tryd.underlying194, rfl, by kernel_rfl⟩
instance : ZeroT Tryd.prog 194 [.pointer none] := ⟨.pointer none, by kernel_rfl, .one rfl⟩
instance : Sc Tryd.prog 195 := ⟨_, Tryd.underlying195, rfl, by kernel_rfl⟩
instance : ZeroT Tryd.prog 195 [.nilFunc] := ⟨.nilFunc, by kernel_rfl, .one rfl⟩
instance : Sc Tryd.prog 196 := ⟨_, Tryd.underlying196, rfl, by kernel_rfl⟩
instance : ZeroT Tryd.prog 196 [.nilFunc] := ⟨.nilFunc, by kernel_rfl, .one rfl⟩
instance : Sc Tryd.prog 197 := ⟨_, Tryd.underlying197, rfl, by kernel_rfl⟩
instance : ZeroT Tryd.prog 197 [.pointer none] := ⟨.pointer none, by kernel_rfl, .one rfl⟩
instance : Ag Tryd.prog 198 2 := ⟨_, Tryd.underlying198, rfl, by kernel_rfl⟩
instance : FieldAt Tryd.prog 198 0 0 := ⟨_, _, 0, Tryd.underlying198, rfl, rfl, by kernel_rfl⟩
instance : FieldAt Tryd.prog 198 1 1 := ⟨_, _, 0, Tryd.underlying198, rfl, rfl, by kernel_rfl⟩
instance : OffsT Tryd.prog 198 [(0, 1), (1, 1)] [.pointer none, .slice none 0 0] := ⟨(([(0, 1), (1, 1)] : List (Nat × Nat)).toArray[·]?), fun _ => by kernel_rfl, fun i p h => by simpa using h⟩
instance : ZeroT Tryd.prog 198 [.pointer none, .slice none 0 0] := ⟨_, show still Tryd.prog (zeroValue 198) = some (.agg (List.toArray [.pointer none, .slice none 0 0])) by kernel_rfl, .agg _⟩
instance : Ag Tryd.prog 199 2 := ⟨_, Tryd.underlying199, rfl, by kernel_rfl⟩
instance : FieldAt Tryd.prog 199 0 0 := ⟨_, _, 0, Tryd.underlying199, rfl, rfl, by kernel_rfl⟩
instance : FieldAt Tryd.prog 199 1 1 := ⟨_, _, 0, Tryd.underlying199, rfl, rfl, by kernel_rfl⟩
instance : OffsT Tryd.prog 199 [(0, 1), (1, 1)] [.pointer none, .slice none 0 0] := ⟨(([(0, 1), (1, 1)] : List (Nat × Nat)).toArray[·]?), fun _ => by kernel_rfl, fun i p h => by simpa using h⟩
instance : ZeroT Tryd.prog 199 [.pointer none, .slice none 0 0] := ⟨_, show still Tryd.prog (zeroValue 199) = some (.agg (List.toArray [.pointer none, .slice none 0 0])) by kernel_rfl, .agg _⟩
instance : Sc Tryd.prog 200 := ⟨_, Tryd.underlying200, rfl, by kernel_rfl⟩
instance : ZeroT Tryd.prog 200 [.nilFunc] := ⟨.nilFunc, by kernel_rfl, .one rfl⟩
instance : Sc Tryd.prog 201 := ⟨_, Tryd.underlying201, rfl, by kernel_rfl⟩
instance : ZeroT Tryd.prog 201 [.nilFunc] := ⟨.nilFunc, by kernel_rfl, .one rfl⟩
instance : Sc Tryd.prog 202 := ⟨_, Tryd.underlying202, rfl, by kernel_rfl⟩
instance : ZeroT Tryd.prog 202 [.nilFunc] := ⟨.nilFunc, by kernel_rfl, .one rfl⟩
instance : Sc Tryd.prog 204 := ⟨_, Tryd.underlying204, rfl, by kernel_rfl⟩
instance : ZeroT Tryd.prog 204 [.nilFunc] := ⟨.nilFunc, by kernel_rfl, .one rfl⟩
instance : Sc Tryd.prog 205 := ⟨_, Tryd.underlying205, rfl, by kernel_rfl⟩
instance : ZeroT Tryd.prog 205 [.nilFunc] := ⟨.nilFunc, by kernel_rfl, .one rfl⟩
instance : Sc Tryd.prog 206 := ⟨_, Tryd.underlying206, rfl, by kernel_rfl⟩
instance : ZeroT Tryd.prog 206 [.nilFunc] := ⟨.nilFunc, by kernel_rfl, .one rfl⟩
instance : Sc Tryd.prog 208 := ⟨_, Tryd.underlying208, rfl, by kernel_rfl⟩
instance : ZeroT Tryd.prog 208 [.nilFunc] := ⟨.nilFunc, by kernel_rfl, .one rfl⟩
instance : Sc Tryd.prog 209 := ⟨_, Tryd.underlying209, rfl, by kernel_rfl⟩
instance : ZeroT Tryd.prog 209 [.nilFunc] := ⟨.nilFunc, by kernel_rfl, .one rfl⟩
instance : Sc Tryd.prog 210 := ⟨_, Tryd.underlying210, rfl, by kernel_rfl⟩
instance : ZeroT Tryd.prog 210 [.nilFunc] := ⟨.nilFunc, by kernel_rfl, .one rfl⟩
instance : Sc Tryd.prog 211 := ⟨_, Tryd.underlying211, rfl, by kernel_rfl⟩
instance : ZeroT Tryd.prog 211 [.nilFunc] := ⟨.nilFunc, by kernel_rfl, .one rfl⟩
instance : Sc Tryd.prog 212 := ⟨_, Tryd.underlying212, rfl, by kernel_rfl⟩
instance : ZeroT Tryd.prog 212 [.nilFunc] := ⟨.nilFunc, by kernel_rfl, .one rfl⟩
instance : Sc Tryd.prog 213 := ⟨_, Tryd.underlying213, rfl, by kernel_rfl⟩
instance : ZeroT Tryd.prog 213 [.nilFunc] := ⟨.nilFunc, by kernel_rfl, .one rfl⟩
instance : Sc Tryd.prog 214 := ⟨_, Tryd.underlying214, rfl, by kernel_rfl⟩
instance : ZeroT Tryd.prog 214 [.nilFunc] := ⟨.nilFunc, by kernel_rfl, .one rfl⟩
instance : Sc Tryd.prog 215 := ⟨_, Tryd.underlying215, rfl, by kernel_rfl⟩
instance : ZeroT Tryd.prog 215 [.nilFunc] := ⟨.nilFunc, by kernel_rfl, .one rfl⟩
instance : Ag Tryd.prog 216 1 := ⟨_, Tryd.underlying216, rfl, by kernel_rfl⟩
instance : FieldAt Tryd.prog 216 0 0 := ⟨_, _, 0, Tryd.underlying216, rfl, rfl, by kernel_rfl⟩
instance : OffsT Tryd.prog 216 [(0, 1)] [.slice none 0 0] := ⟨(([(0, 1)] : List (Nat × Nat)).toArray[·]?), fun _ => by kernel_rfl, fun i p h => by simpa using h⟩
instance : ZeroT Tryd.prog 216 [.slice none 0 0] := ⟨_, show still Tryd.prog (zeroValue 216) = some (.agg (List.toArray [.slice none 0 0])) by kernel_rfl, .agg _⟩
instance : Ag Tryd.prog 217 1 := ⟨_, Tryd.underlying217, rfl, by kernel_rfl⟩
instance : FieldAt Tryd.prog 217 0 0 := ⟨_, _, 0, Tryd.underlying217, rfl, rfl, by kernel_rfl⟩
instance : OffsT Tryd.prog 217 [(0, 1)] [.slice none 0 0] := ⟨(([(0, 1)] : List (Nat × Nat)).toArray[·]?), fun _ => by kernel_rfl, fun i p h => by simpa using h⟩
instance : ZeroT Tryd.prog 217 [.slice none 0 0] := ⟨_, show still Tryd.prog (zeroValue 217) = some (.agg (List.toArray [.slice none 0 0])) by kernel_rfl, .agg _⟩
instance : Sc Tryd.prog 218 := ⟨_, Tryd.underlying218, rfl, by kernel_rfl⟩
instance : ZeroT Tryd.prog 218 [.nilFunc] := ⟨.nilFunc, by kernel_rfl, .one rfl⟩
instance : Ag Tryd.prog 219 4 := ⟨_, Tryd.underlying219, rfl, by kernel_rfl⟩
instance : FieldAt Tryd.prog 219 0 0 := ⟨_, _, 0, Tryd.underlying219, rfl, rfl, by kernel_rfl⟩
instance : FieldAt Tryd.prog 219 1 1 := ⟨_, _, 2, Tryd.underlying219, rfl, rfl, by kernel_rfl⟩
instance : OffsT Tryd.prog 219 [(0, 1), (1, 3)] [.int .i64 0, .int .i64 0, .int .i64 0, .int .i64 0] := ⟨(([(0, 1), (1, 3)] : List (Nat × Nat)).toArray[·]?), fun _ => by kernel_rfl, fun i p h => by simpa using h⟩
instance : ZeroT Tryd.prog 219 [.int .i64 0, .int .i64 0, .int .i64 0, .int .i64 0] := ⟨_, show still Tryd.prog (zeroValue 219) = some (.agg (List.toArray [.int .i64 0, .int .i64 0, .int .i64 0, .int .i64 0])) by kernel_rfl, .agg _⟩
instance : Ag Tryd.prog 220 4 := ⟨_, Tryd.underlying220, rfl, by kernel_rfl⟩
instance : FieldAt Tryd.prog 220 0 0 := ⟨_, _, 0, Tryd.underlying220, rfl, rfl, by kernel_rfl⟩
instance : FieldAt Tryd.prog 220 1 1 := ⟨_, _, 2, Tryd.underlying220, rfl, rfl, by kernel_rfl⟩
instance : OffsT Tryd.prog 220 [(0, 1), (1, 3)] [.int .i64 0, .int .i64 0, .int .i64 0, .int .i64 0] := ⟨(([(0, 1), (1, 3)] : List (Nat × Nat)).toArray[·]?), fun _ => by kernel_rfl, fun i p h => by simpa using h⟩
instance : ZeroT Tryd.prog 220 [.int .i64 0, .int .i64 0, .int .i64 0, .int .i64 0] := ⟨_, show still Tryd.prog (zeroValue 220) = some (.agg (List.toArray [.int .i64 0, .int .i64 0, .int .i64 0, .int .i64 0])) by kernel_rfl, .agg _⟩
instance : Sc Tryd.prog 221 := ⟨_, Tryd.underlying221, rfl, by kernel_rfl⟩
instance : ZeroT Tryd.prog 221 [.nilFunc] := ⟨.nilFunc, by kernel_rfl, .one rfl⟩
instance : Sc Tryd.prog 222 := ⟨_, Tryd.underlying222, rfl, by kernel_rfl⟩
instance : ZeroT Tryd.prog 222 [.nilFunc] := ⟨.nilFunc, by kernel_rfl, .one rfl⟩
instance : Sc Tryd.prog 223 := ⟨_, Tryd.underlying223, rfl, by kernel_rfl⟩
instance : ZeroT Tryd.prog 223 [.nilFunc] := ⟨.nilFunc, by kernel_rfl, .one rfl⟩
instance : Sc Tryd.prog 224 := ⟨_, Tryd.underlying224, rfl, by kernel_rfl⟩
instance : ZeroT Tryd.prog 224 [.nilFunc] := ⟨.nilFunc, by kernel_rfl, .one rfl⟩
instance : Sc Tryd.prog 225 := ⟨_, Tryd.underlying225, rfl, by kernel_rfl⟩
instance : ZeroT Tryd.prog 225 [.nilFunc] := ⟨.nilFunc, by kernel_rfl, .one rfl⟩
instance : Sc Tryd.prog 226 := ⟨_, Tryd.underlying226, rfl, by kernel_rfl⟩
instance : ZeroT Tryd.prog 226 [.nilFunc] := ⟨.nilFunc, by kernel_rfl, .one rfl⟩
instance : Sc Tryd.prog 227 := ⟨_, Tryd.underlying227, rfl, by kernel_rfl⟩
instance : ZeroT Tryd.prog 227 [.nilFunc] := ⟨.nilFunc, by kernel_rfl, .one rfl⟩
instance : Sc Tryd.prog 229 := ⟨_, Tryd.underlying229, rfl, by kernel_rfl⟩
instance : ZeroT Tryd.prog 229 [.nilFunc] := ⟨.nilFunc, by kernel_rfl, .one rfl⟩
instance : Sc Tryd.prog 230 := ⟨_, Tryd.underlying230, rfl, by kernel_rfl⟩
instance : ZeroT Tryd.prog 230 [.nilFunc] := ⟨.nilFunc, by kernel_rfl, .one rfl⟩
instance : Sc Tryd.prog 231 := ⟨_, Tryd.underlying231, rfl, by kernel_rfl⟩
instance : ZeroT Tryd.prog 231 [.nilFunc] := ⟨.nilFunc, by kernel_rfl, .one rfl⟩
instance : Sc Tryd.prog 232 := ⟨_, Tryd.underlying232, rfl, by kernel_rfl⟩
instance : ZeroT Tryd.prog 232 [.nilFunc] := ⟨.nilFunc, by kernel_rfl, .one rfl⟩
instance : Sc Tryd.prog 233 := ⟨_, Tryd.underlying233, rfl, by kernel_rfl⟩
instance : ZeroT Tryd.prog 233 [.nilFunc] := ⟨.nilFunc, by kernel_rfl, .one rfl⟩
instance : Sc Tryd.prog 234 := ⟨_, Tryd.underlying234, rfl, by kernel_rfl⟩
instance : ZeroT Tryd.prog 234 [.nilFunc] := ⟨.nilFunc, by kernel_rfl, .one rfl⟩
instance : Sc Tryd.prog 235 := ⟨_, Tryd.underlying235, rfl, by kernel_rfl⟩
instance : ZeroT Tryd.prog 235 [.nilFunc] := ⟨.nilFunc, by kernel_rfl, .one rfl⟩
instance : Sc Tryd.prog 236 := ⟨_, Tryd.underlying236, rfl, by kernel_rfl⟩
instance : ZeroT Tryd.prog 236 [.nilFunc] := ⟨.nilFunc, by kernel_rfl, .one rfl⟩
instance : Sc Tryd.prog 237 := ⟨_, Tryd.underlying237, rfl, by kernel_rfl⟩
instance : ZeroT Tryd.prog 237 [.pointer none] := ⟨.pointer none, by kernel_rfl, .one rfl⟩
instance : Sc Tryd.prog 238 := ⟨_, Tryd.underlying238, rfl, by kernel_rfl⟩
instance : ZeroT Tryd.prog 238 [.nilFunc] := ⟨.nilFunc, by kernel_rfl, .one rfl⟩
instance : Ag Tryd.prog 239 2 := ⟨_, Tryd.underlying239, rfl, by kernel_rfl⟩
instance : FieldAt Tryd.prog 239 0 0 := ⟨_, _, 0, Tryd.underlying239, rfl, rfl, by kernel_rfl⟩
instance : FieldAt Tryd.prog 239 1 1 := ⟨_, _, 0, Tryd.underlying239, rfl, rfl, by kernel_rfl⟩
instance : OffsT Tryd.prog 239 [(0, 1), (1, 1)] [.int .u8 0, .int .u8 0] := ⟨(([(0, 1), (1, 1)] : List (Nat × Nat)).toArray[·]?), fun _ => by kernel_rfl, fun i p h => by simpa using h⟩
instance : ZeroT Tryd.prog 239 [.int .u8 0, .int .u8 0] := ⟨_, show still Tryd.prog (zeroValue 239) = some (.agg (List.toArray [.int .u8 0, .int .u8 0])) by kernel_rfl, .agg _⟩
instance : Ag Tryd.prog 240 2 := ⟨_, Tryd.underlying240, rfl, by kernel_rfl⟩
instance : FieldAt Tryd.prog 240 0 0 := ⟨_, _, 0, Tryd.underlying240, rfl, rfl, by kernel_rfl⟩
instance : FieldAt Tryd.prog 240 1 1 := ⟨_, _, 0, Tryd.underlying240, rfl, rfl, by kernel_rfl⟩
instance : OffsT Tryd.prog 240 [(0, 1), (1, 1)] [.int .u8 0, .int .u8 0] := ⟨(([(0, 1), (1, 1)] : List (Nat × Nat)).toArray[·]?), fun _ => by kernel_rfl, fun i p h => by simpa using h⟩
instance : ZeroT Tryd.prog 240 [.int .u8 0, .int .u8 0] := ⟨_, show still Tryd.prog (zeroValue 240) = some (.agg (List.toArray [.int .u8 0, .int .u8 0])) by kernel_rfl, .agg _⟩
instance : Ag Tryd.prog 241 32 := ⟨_, Tryd.underlying241, rfl, by kernel_rfl⟩
instance : ArrT Tryd.prog 241 16 240 2 := ⟨Tryd.underlying241, by kernel_rfl⟩
instance : OffsT Tryd.prog 241 (arrOffs 16 2) [.int .u8 0, .int .u8 0, .int .u8 0, .int .u8 0, .int .u8 0, .int .u8 0, .int .u8 0, .int .u8 0, .int .u8 0, .int .u8 0, .int .u8 0, .int .u8 0, .int .u8 0, .int .u8 0, .int .u8 0, .int .u8 0, .int .u8 0, .int .u8 0, .int .u8 0, .int .u8 0, .int .u8 0, .int .u8 0, .int .u8 0, .int .u8 0, .int .u8 0, .int .u8 0, .int .u8 0, .int .u8 0, .int .u8 0, .int .u8 0, .int .u8 0, .int .u8 0] := ⟨fun i => some (i * 2, 2), fun _ => by kernel_rfl, arrOffs_at 16 2⟩
instance : ZeroT Tryd.prog 241 [.int .u8 0, .int .u8 0, .int .u8 0, .int .u8 0, .int .u8 0, .int .u8 0, .int .u8 0, .int .u8 0, .int .u8 0, .int .u8 0, .int .u8 0, .int .u8 0, .int .u8 0, .int .u8 0, .int .u8 0, .int .u8 0, .int .u8 0, .int .u8 0, .int .u8 0, .int .u8 0, .int .u8 0, .int .u8 0, .int .u8 0, .int .u8 0, .int .u8 0, .int .u8 0, .int .u8 0, .int .u8 0, .int .u8 0, .int .u8 0, .int .u8 0, .int .u8 0] := ⟨_, show still Tryd.prog (zeroValue 241) = some (.agg (List.toArray [.int .u8 0, .int .u8 0, .int .u8 0, .int .u8 0, .int .u8 0, .int .u8 0, .int .u8 0, .int .u8 0, .int .u8 0, .int .u8 0, .int .u8 0, .int .u8 0, .int .u8 0, .int .u8 0, .int .u8 0, .int .u8 0, .int .u8 0, .int .u8 0, .int .u8 0, .int .u8 0, .int .u8 0, .int .u8 0, .int .u8 0, .int .u8 0, .int .u8 0, .int .u8 0, .int .u8 0, .int .u8 0, .int .u8 0, .int .u8 0, .int .u8 0, .int .u8 0])) by kernel_rfl, .agg _⟩
instance : Sc Tryd.prog 242 := ⟨_, Tryd.underlying242, rfl, by kernel_rfl⟩
instance : ZeroT Tryd.prog 242 [.int .i64 0] := ⟨.int .i64 0, by kernel_rfl, .one rfl⟩
instance : IntT Tryd.prog 242 .i64 := ⟨Tryd.underlying242⟩
instance : Sc Tryd.prog 244 := ⟨_, Tryd.underlying244, rfl, by kernel_rfl⟩
instance : ZeroT Tryd.prog 244 [.nilFunc] := ⟨.nilFunc, by kernel_rfl, .one rfl⟩
instance : Sc Tryd.prog 245 := ⟨_, Tryd.underlying245, rfl, by kernel_rfl⟩
instance : ZeroT Tryd.prog 245 [.pointer none] := ⟨.pointer none, by kernel_rfl, .one rfl⟩
instance : Sc Tryd.prog 246 := ⟨_, Tryd.underlying246, rfl, by kernel_rfl⟩
instance : ZeroT Tryd.prog 246 [.nilFunc] := ⟨.nilFunc, by kernel_rfl, .one rfl⟩
instance : Sc Tryd.prog 247 := ⟨_, Tryd.underlying247, rfl, by kernel_rfl⟩
instance : ZeroT Tryd.prog 247 [.nilFunc] := ⟨.nilFunc, by kernel_rfl, .one rfl⟩
instance : Sc Tryd.prog 248 := ⟨_, Tryd.underlying248, rfl, by kernel_rfl⟩
instance : ZeroT Tryd.prog 248 [.nilFunc] := ⟨.nilFunc, by kernel_rfl, .one rfl⟩
instance : Sc Tryd.prog 249 := ⟨_, Tryd.underlying249, rfl, by kernel_rfl⟩
instance : ZeroT Tryd.prog 249 [.nilFunc] := ⟨.nilFunc, by kernel_rfl, .one rfl⟩
instance : Sc Tryd.prog 250 := ⟨_, Tryd.underlying250, rfl, by kernel_rfl⟩
instance : ZeroT Tryd.prog 250 [.nilFunc] := ⟨.nilFunc, by kernel_rfl, .one rfl⟩
instance : Sc Tryd.prog 251 := ⟨_, Tryd.underlying251, rfl, by kernel_rfl⟩
instance : ZeroT Tryd.prog 251 [.nilFunc] := ⟨.nilFunc, by kernel_rfl, .one rfl⟩
instance : Sc Tryd.prog 252 := ⟨_, Tryd.underlying252, rfl, by kernel_rfl⟩
instance : ZeroT Tryd.prog 252 [.nilFunc] := ⟨.nilFunc, by kernel_rfl, .one rfl⟩
instance : Sc Tryd.prog 253 := ⟨_, Tryd.underlying253, rfl, by kernel_rfl⟩
instance : ZeroT Tryd.prog 253 [.int .u32 0] := ⟨.int .u32 0, by kernel_rfl, .one rfl⟩
instance : IntT Tryd.prog 253 .u32 := ⟨Tryd.underlying253⟩
instance : Sc Tryd.prog 255 := ⟨_, Tryd.underlying255, rfl, by kernel_rfl⟩
instance : ZeroT Tryd.prog 255 [.nilFunc] := ⟨.nilFunc, by kernel_rfl, .one rfl⟩
instance : Sc Tryd.prog 257 := ⟨_, Tryd.underlying257, rfl, by kernel_rfl⟩
instance : ZeroT Tryd.prog 257 [.nilFunc] := ⟨.nilFunc, by kernel_rfl, .one rfl⟩
instance : Sc Tryd.prog 258 := ⟨_, Tryd.underlying258, rfl, by kernel_rfl⟩
instance : ZeroT Tryd.prog 258 [.nilFunc] := ⟨.nilFunc, by kernel_rfl, .one rfl⟩
instance : Sc Tryd.prog 259 := ⟨_, Tryd.underlying259, rfl, by kernel_rfl⟩
instance : ZeroT Tryd.prog 259 [.nilFunc] := ⟨.nilFunc, by kernel_rfl, .one rfl⟩
instance : Sc Tryd.prog 260 := ⟨_, Tryd.underlying260, rfl, by kernel_rfl⟩
instance : ZeroT Tryd.prog 260 [.nilFunc] := ⟨.nilFunc, by kernel_rfl, .one rfl⟩
instance : Ag Tryd.prog 261 24 := ⟨_, Tryd.underlying261, rfl, by kernel_rfl⟩
instance : ArrT Tryd.prog 261 24 5 1 := ⟨Tryd.underlying261, by kernel_rfl⟩
instance : OffsT Tryd.prog 261 (arrOffs 24 1) [.int .u8 0, .int .u8 0, .int .u8 0, .int .u8 0, .int .u8 0, .int .u8 0, .int .u8 0, .int .u8 0, .int .u8 0, .int .u8 0, .int .u8 0, .int .u8 0, .int .u8 0, .int .u8 0, .int .u8 0, .int .u8 0, .int .u8 0, .int .u8 0, .int .u8 0, .int .u8 0, .int .u8 0, .int .u8 0, .int .u8 0, .int .u8 0] := ⟨fun i => some (i * 1, 1), fun _ => by kernel_rfl, arrOffs_at 24 1⟩
instance : ZeroT Tryd.prog 261 [.int .u8 0, .int .u8 0, .int .u8 0, .int .u8 0, .int .u8 0, .int .u8 0, .int .u8 0, .int .u8 0, .int .u8 0, .int .u8 0, .int .u8 0, .int .u8 0, .int .u8 0, .int .u8 0, .int .u8 0, .int .u8 0, .int .u8 0, .int .u8 0, .int .u8 0, .int .u8 0, .int .u8 0, .int .u8 0, .int .u8 0, .int .u8 0] := ⟨_, show still Tryd.prog (zeroValue 261) = some (.agg (List.toArray [.int .u8 0, .int .u8 0, .int .u8 0, .int .u8 0, .int .u8 0, .int .u8 0, .int .u8 0, .int .u8 0, .int .u8 0, .int .u8 0, .int .u8 0, .int .u8 0, .int .u8 0, .int .u8 0, .int .u8 0, .int .u8 0, .int .u8 0, .int .u8 0, .int .u8 0, .int .u8 0, .int .u8 0, .int .u8 0, .int .u8 0, .int .u8 0])) by kernel_rfl, .agg _⟩
instance : Sc Tryd.prog 262 := ⟨_, Tryd.underlying262, rfl, by kernel_rfl⟩
instance : ZeroT Tryd.prog 262 [.nilFunc] := ⟨.nilFunc, by kernel_rfl, .one rfl⟩
instance : Sc Tryd.prog 263 := ⟨_, Tryd.underlying263, rfl, by kernel_rfl⟩
instance : ZeroT Tryd.prog 263 [.nilFunc] := ⟨.nilFunc, by kernel_rfl, .one rfl⟩
instance : Sc Tryd.prog 265 := ⟨_, Tryd.underlying265, rfl, by kernel_rfl⟩
instance : ZeroT Tryd.prog 265 [.nilFunc] := ⟨.nilFunc, by kernel_rfl, .one rfl⟩
instance : Sc Tryd.prog 266 := ⟨_, Tryd.underlying266, rfl, by kernel_rfl⟩
-- type 266: ('unsafePointer',)
instance : Sc Tryd.prog 267 := ⟨_, Tryd.underlying267, rfl, by kernel_rfl⟩
instance : ZeroT Tryd.prog 267 [.nilFunc] := ⟨.nilFunc, by kernel_rfl, .one rfl⟩
instance : Sc Tryd.prog 268 := ⟨_, Tryd.underlying268, rfl, by kernel_rfl⟩
instance : ZeroT Tryd.prog 268 [.nilFunc] := ⟨.nilFunc, by kernel_rfl, .one rfl⟩
instance : Sc Tryd.prog 270 := ⟨_, Tryd.underlying270, rfl, by kernel_rfl⟩
instance : ZeroT Tryd.prog 270 [.nilFunc] := ⟨.nilFunc, by kernel_rfl, .one rfl⟩
instance : Ag Tryd.prog 271 3 := ⟨_, Tryd.underlying271, rfl, by kernel_rfl⟩
instance : FieldAt Tryd.prog 271 0 0 := ⟨_, _, 0, Tryd.underlying271, rfl, rfl, by kernel_rfl⟩
instance : FieldAt Tryd.prog 271 1 1 := ⟨_, _, 0, Tryd.underlying271, rfl, rfl, by kernel_rfl⟩
instance : FieldAt Tryd.prog 271 2 2 := ⟨_, _, 0, Tryd.underlying271, rfl, rfl, by kernel_rfl⟩
instance : OffsT Tryd.prog 271 [(0, 1), (1, 1), (2, 1)] [.string .empty, .string .empty, .nilIface] := ⟨(([(0, 1), (1, 1), (2, 1)] : List (Nat × Nat)).toArray[·]?), fun _ => by kernel_rfl, fun i p h => by simpa using h⟩
instance : ZeroT Tryd.prog 271 [.string .empty, .string .empty, .nilIface] := ⟨_, show still Tryd.prog (zeroValue 271) = some (.agg (List.toArray [.string .empty, .string .empty, .nilIface])) by kernel_rfl, .agg _⟩
instance : Ag Tryd.prog 272 3 := ⟨_, Tryd.underlying272, rfl, by kernel_rfl⟩
instance : FieldAt Tryd.prog 272 0 0 := ⟨_, _, 0, Tryd.underlying272, rfl, rfl, by kernel_rfl⟩
instance : FieldAt Tryd.prog 272 1 1 := ⟨_, _, 0, Tryd.underlying272, rfl, rfl, by kernel_rfl⟩
instance : FieldAt Tryd.prog 272 2 2 := ⟨_, _, 0, Tryd.underlying272, rfl, rfl, by kernel_rfl⟩
instance : OffsT Tryd.prog 272 [(0, 1), (1, 1), (2, 1)] [.string .empty, .string .empty, .nilIface] := ⟨(([(0, 1), (1, 1), (2, 1)] : List (Nat × Nat)).toArray[·]?), fun _ => by kernel_rfl, fun i p h => by simpa using h⟩
instance : ZeroT Tryd.prog 272 [.string .empty, .string .empty, .nilIface] := ⟨_, show still Tryd.prog (zeroValue 272) = some (.agg (List.toArray [.string .empty, .string .empty, .nilIface])) by kernel_rfl, .agg _⟩
instance : Sc Tryd.prog 273 := ⟨_, Tryd.underlying273, rfl, by kernel_rfl⟩
instance : ZeroT Tryd.prog 273 [.nilFunc] := ⟨.nilFunc, by kernel_rfl, .one rfl⟩
instance : Sc Tryd.prog 274 := ⟨_, Tryd.underlying274, rfl, by kernel_rfl⟩
instance : ZeroT Tryd.prog 274 [.nilFunc] := ⟨.nilFunc, by kernel_rfl, .one rfl⟩
instance : Sc Tryd.prog 275 := ⟨_, Tryd.underlying275, rfl, by kernel_rfl⟩
instance : ZeroT Tryd.prog 275 [.nilFunc] := ⟨.nilFunc, by kernel_rfl, .one rfl⟩
instance : Sc Tryd.prog 276 := ⟨_, Tryd.underlying276, rfl, by kernel_rfl⟩
instance : ZeroT Tryd.prog 276 [.nilFunc] := ⟨.nilFunc, by kernel_rfl, .one rfl⟩
instance : Sc Tryd.prog 277 := ⟨_, Tryd.underlying277, rfl, by kernel_rfl⟩
instance : ZeroT Tryd.prog 277 [.nilFunc] := ⟨.nilFunc, by kernel_rfl, .one rfl⟩
instance : Ag Tryd.prog 278 20 := ⟨_, Tryd.underlying278, rfl, by kernel_rfl⟩
instance : ArrT Tryd.prog 278 20 68 1 := ⟨Tryd.underlying278, by kernel_rfl⟩
instance : OffsT Tryd.prog 278 (arrOffs 20 1) [.int .u64 0, .int .u64 0, .int .u64 0, .int .u64 0, .int .u64 0, .int .u64 0, .int .u64 0, .int .u64 0, .int .u64 0, .int .u64 0, .int .u64 0, .int .u64 0, .int .u64 0, .int .u64 0, .int .u64 0, .int .u64 0, .int .u64 0, .int .u64 0, .int .u64 0, .int .u64 0] := ⟨fun i => some (i * 1, 1), fun _ => by kernel_rfl, arrOffs_at 20 1⟩
instance : ZeroT Tryd.prog 278 [.int .u64 0, .int .u64 0, .int .u64 0, .int .u64 0, .int .u64 0, .int .u64 0, .int .u64 0, .int .u64 0, .int .u64 0, .int .u64 0, .int .u64 0, .int .u64 0, .int .u64 0, .int .u64 0, .int .u64 0, .int .u64 0, .int .u64 0, .int .u64 0, .int .u64 0, .int .u64 0] := ⟨_, show still Tryd.prog (zeroValue 278) = some (.agg (List.toArray [.int .u64 0, .int .u64 0, .int .u64 0, .int .u64 0, .int .u64 0, .int .u64 0, .int .u64 0, .int .u64 0, .int .u64 0, .int .u64 0, .int .u64 0, .int .u64 0, .int .u64 0, .int .u64 0, .int .u64 0, .int .u64 0, .int .u64 0, .int .u64 0, .int .u64 0, .int .u64 0])) by kernel_rfl, .agg _⟩
instance : Ag Tryd.prog 279 65 := ⟨_, Tryd.underlying279, rfl, by kernel_rfl⟩
instance : ArrT Tryd.prog 279 65 5 1 := ⟨Tryd.underlying279, by kernel_rfl⟩
instance : Sc Tryd.prog 280 := ⟨_, Tryd.underlying280, rfl, by kernel_rfl⟩
instance : ZeroT Tryd.prog 280 [.nilFunc] := ⟨.nilFunc, by kernel_rfl, .one rfl⟩
instance : Sc Tryd.prog 281 := ⟨_, Tryd.underlying281, rfl, by kernel_rfl⟩
instance : ZeroT Tryd.prog 281 [.nilFunc] := ⟨.nilFunc, by kernel_rfl, .one rfl⟩
instance : Sc Tryd.prog 282 := ⟨_, Tryd.underlying282, rfl, by kernel_rfl⟩
instance : ZeroT Tryd.prog 282 [.pointer none] := ⟨.pointer none, by kernel_rfl, .one rfl⟩
instance : Ag Tryd.prog 283 1 := ⟨_, Tryd.underlying283, rfl, by kernel_rfl⟩
instance : FieldAt Tryd.prog 283 0 0 := ⟨_, _, 0, Tryd.underlying283, rfl, rfl, by kernel_rfl⟩
instance : OffsT Tryd.prog 283 [(0, 1)] [.string .empty] := ⟨(([(0, 1)] : List (Nat × Nat)).toArray[·]?), fun _ => by kernel_rfl, fun i p h => by simpa using h⟩
instance : ZeroT Tryd.prog 283 [.string .empty] := ⟨_, show still Tryd.prog (zeroValue 283) = some (.agg (List.toArray [.string .empty])) by kernel_rfl, .agg _⟩
instance : Ag Tryd.prog 284 1 := ⟨_, Tryd.underlying284, rfl, by kernel_rfl⟩
instance : FieldAt Tryd.prog 284 0 0 := ⟨_, _, 0, Tryd.underlying284, rfl, rfl, by kernel_rfl⟩
instance : OffsT Tryd.prog 284 [(0, 1)] [.string .empty] := ⟨(([(0, 1)] : List (Nat × Nat)).toArray[·]?), fun _ => by kernel_rfl, fun i p h => by simpa using h⟩
instance : ZeroT Tryd.prog 284 [.string .empty] := ⟨_, show still Tryd.prog (zeroValue 284) = some (.agg (List.toArray [.string .empty])) by kernel_rfl, .agg _⟩
instance : Sc Tryd.prog 285 := ⟨_, Tryd.underlying285, rfl, by kernel_rfl⟩
instance : ZeroT Tryd.prog 285 [.nilFunc] := ⟨.nilFunc, by kernel_rfl, .one rfl⟩
instance : Sc Tryd.prog 286 := ⟨_, Tryd.underlying286, rfl, by kernel_rfl⟩
instance : ZeroT Tryd.prog 286 [.nilFunc] := ⟨.nilFunc, by kernel_rfl, .one rfl⟩
instance : Ag Tryd.prog 287 32 := ⟨_, Tryd.underlying287, rfl, by kernel_rfl⟩
instance : ArrT Tryd.prog 287 32 5 1 := ⟨Tryd.underlying287, by kernel_rfl⟩
instance : OffsT Tryd.prog 287 (arrOffs 32 1) [.int .u8 0, .int .u8 0, .int .u8 0, .int .u8 0, .int .u8 0, .int .u8 0, .int .u8 0, .int .u8 0, .int .u8 0, .int .u8 0, .int .u8 0, .int .u8 0, .int .u8 0, .int .u8 0, .int .u8 0, .int .u8 0, .int .u8 0, .int .u8 0, .int .u8 0, .int .u8 0, .int .u8 0, .int .u8 0, .int .u8 0, .int .u8 0, .int .u8 0, .int .u8 0, .int .u8 0, .int .u8 0, .int .u8 0, .int .u8 0, .int .u8 0, .int .u8 0] := ⟨fun i => some (i * 1, 1), fun _ => by kernel_rfl, arrOffs_at 32 1⟩
instance : ZeroT Tryd.prog 287 [.int .u8 0, .int .u8 0, .int .u8 0, .int .u8 0, .int .u8 0, .int .u8 0, .int .u8 0, .int .u8 0, .int .u8 0, .int .u8 0, .int .u8 0, .int .u8 0, .int .u8 0, .int .u8 0, .int .u8 0, .int .u8 0, .int .u8 0, .int .u8 0, .int .u8 0, .int .u8 0, .int .u8 0, .int .u8 0, .int .u8 0, .int .u8 0, .int .u8 0, .int .u8 0, .int .u8 0, .int .u8 0, .int .u8 0, .int .u8 0, .int .u8 0, .int .u8 0] := ⟨_, show still Tryd.prog (zeroValue 287) = some (.agg (List.toArray [.int .u8 0, .int .u8 0, .int .u8 0, .int .u8 0, .int .u8 0, .int .u8 0, .int .u8 0, .int .u8 0, .int .u8 0, .int .u8 0, .int .u8 0, .int .u8 0, .int .u8 0, .int .u8 0, .int .u8 0, .int .u8 0, .int .u8 0, .int .u8 0, .int .u8 0, .int .u8 0, .int .u8 0, .int .u8 0, .int .u8 0, .int .u8 0, .int .u8 0, .int .u8 0, .int .u8 0, .int .u8 0, .int .u8 0, .int .u8 0, .int .u8 0, .int .u8 0])) by kernel_rfl, .agg _⟩
instance : Ag Tryd.prog 288 64 := ⟨_, Tryd.underlying288, rfl, by kernel_rfl⟩
instance : ArrT Tryd.prog 288 64 5 1 := ⟨Tryd.underlying288, by kernel_rfl⟩
instance : Ag Tryd.prog 289 4 := ⟨_, Tryd.underlying289, rfl, by kernel_rfl⟩
instance : FieldAt Tryd.prog 289 0 0 := ⟨_, _, 0, Tryd.underlying289, rfl, rfl, by kernel_rfl⟩
instance : FieldAt Tryd.prog 289 1 1 := ⟨_, _, 0, Tryd.underlying289, rfl, rfl, by kernel_rfl⟩
instance : FieldAt Tryd.prog 289 2 2 := ⟨_, _, 0, Tryd.underlying289, rfl, rfl, by kernel_rfl⟩
instance : FieldAt Tryd.prog 289 3 3 := ⟨_, _, 0, Tryd.underlying289, rfl, rfl, by kernel_rfl⟩
instance : OffsT Tryd.prog 289 [(0, 1), (1, 1), (2, 1), (3, 1)] [.pointer none, .pointer none, .pointer none, .string .empty] := ⟨(([(0, 1), (1, 1), (2, 1), (3, 1)] : List (Nat × Nat)).toArray[·]?), fun _ => by kernel_rfl, fun i p h => by simpa using h⟩
instance : ZeroT Tryd.prog 289 [.pointer none, .pointer none, .pointer none, .string .empty] := ⟨_, show still Tryd.prog (zeroValue 289) = some (.agg (List.toArray [.pointer none, .pointer none, .pointer none, .string .empty])) by kernel_rfl, .agg _⟩
instance : Ag Tryd.prog 290 4 := ⟨_, Tryd.underlying290, rfl, by kernel_rfl⟩
instance : FieldAt Tryd.prog 290 0 0 := ⟨_, _, 0, Tryd.underlying290, rfl, rfl, by kernel_rfl⟩
instance : FieldAt Tryd.prog 290 1 1 := ⟨_, _, 0, Tryd.underlying290, rfl, rfl, by kernel_rfl⟩
instance : FieldAt Tryd.prog 290 2 2 := ⟨_, _, 0, Tryd.underlying290, rfl, rfl, by kernel_rfl⟩
instance : FieldAt Tryd.prog 290 3 3 := ⟨_, _, 0, Tryd.underlying290, rfl, rfl, by kernel_rfl⟩
instance : OffsT Tryd.prog 290 [(0, 1), (1, 1), (2, 1), (3, 1)] [.pointer none, .pointer none, .pointer none, .string .empty] := ⟨(([(0, 1), (1, 1), (2, 1), (3, 1)] : List (Nat × Nat)).toArray[·]?), fun _ => by kernel_rfl, fun i p h => by simpa using h⟩
instance : ZeroT Tryd.prog 290 [.pointer none, .pointer none, .pointer none, .string .empty] := ⟨_, show still Tryd.prog (zeroValue 290) = some (.agg (List.toArray [.pointer none, .pointer none, .pointer none, .string .empty])) by kernel_rfl, .agg _⟩
instance : Sc Tryd.prog 294 := ⟨_, Tryd.underlying294, rfl, by kernel_rfl⟩
instance : ZeroT Tryd.prog 294 [.int .u8 0] := ⟨.int .u8 0, by kernel_rfl, .one rfl⟩
instance : IntT Tryd.prog 294 .u8 := ⟨Tryd.underlying294⟩
instance : Sc Tryd.prog 295 := ⟨_, Tryd.underlying295, rfl, by kernel_rfl⟩
instance : ZeroT Tryd.prog 295 [.int .u8 0] := ⟨.int .u8 0, by kernel_rfl, .one rfl⟩
instance : IntT Tryd.prog 295 .u8 := ⟨Tryd.underlying295⟩
instance : Sc Tryd.prog 296 := ⟨_, Tryd.underlying296, rfl, by kernel_rfl⟩
instance : ZeroT Tryd.prog 296 [.nilFunc] := ⟨.nilFunc, by kernel_rfl, .one rfl⟩
instance : Sc Tryd.prog 297 := ⟨_, Tryd.underlying297, rfl, by kernel_rfl⟩
instance : ZeroT Tryd.prog 297 [.int .i32 0] := ⟨.int .i32 0, by kernel_rfl, .one rfl⟩
instance : IntT Tryd.prog 297 .i32 := ⟨Tryd.underlying297⟩
instance : Sc Tryd.prog 298 := ⟨_, Tryd.underlying298, rfl, by kernel_rfl⟩
instance : ZeroT Tryd.prog 298 [.int .i32 0] := ⟨.int .i32 0, by kernel_rfl, .one rfl⟩
instance : IntT Tryd.prog 298 .i32 := ⟨Tryd.underlying298⟩
instance : Ag Tryd.prog 299 11 := ⟨_, Tryd.underlying299, rfl, by kernel_rfl⟩
instance : FieldAt Tryd.prog 299 0 0 := ⟨_, _, 0, Tryd.underlying299, rfl, rfl, by kernel_rfl⟩
instance : FieldAt Tryd.prog 299 1 1 := ⟨_, _, 0, Tryd.underlying299, rfl, rfl, by kernel_rfl⟩
instance : FieldAt Tryd.prog 299 2 2 := ⟨_, _, 0, Tryd.underlying299, rfl, rfl, by kernel_rfl⟩
instance : FieldAt Tryd.prog 299 3 3 := ⟨_, _, 0, Tryd.underlying299, rfl, rfl, by kernel_rfl⟩
instance : FieldAt Tryd.prog 299 4 4 := ⟨_, _, 0, Tryd.underlying299, rfl, rfl, by kernel_rfl⟩
instance : FieldAt Tryd.prog 299 5 5 := ⟨_, _, 0, Tryd.underlying299, rfl, rfl, by kernel_rfl⟩
instance : FieldAt Tryd.prog 299 6 6 := ⟨_, _, 0, Tryd.underlying299, rfl, rfl, by kernel_rfl⟩
instance : FieldAt Tryd.prog 299 7 7 := ⟨_, _, 0, Tryd.underlying299, rfl, rfl, by kernel_rfl⟩
instance : FieldAt Tryd.prog 299 8 8 := ⟨_, _, 0, Tryd.underlying299, rfl, rfl, by kernel_rfl⟩
instance : FieldAt Tryd.prog 299 9 9 := ⟨_, _, 0, Tryd.underlying299, rfl, rfl, by kernel_rfl⟩
instance : FieldAt Tryd.prog 299 10 10 := ⟨_, _, 0, Tryd.underlying299, rfl, rfl, by kernel_rfl⟩
instance : OffsT Tryd.prog 299 [(0, 1), (1, 1), (2, 1), (3, 1), (4, 1), (5, 1), (6, 1), (7, 1), (8, 1), (9, 1), (10, 1)] [.int .u64 0, .int .u64 0, .int .u32 0, .int .u8 0, .int .u8 0, .int .u8 0, .int .u8 0, .nilFunc, .pointer none, .int .i32 0, .int .i32 0] := ⟨(([(0, 1), (1, 1), (2, 1), (3, 1), (4, 1), (5, 1), (6, 1), (7, 1), (8, 1), (9, 1), (10, 1)] : List (Nat × Nat)).toArray[·]?), fun _ => by kernel_rfl, fun i p h => by simpa using h⟩
instance : ZeroT Tryd.prog 299 [.int .u64 0, .int .u64 0, .int .u32 0, .int .u8 0, .int .u8 0, .int .u8 0, .int .u8 0, .nilFunc, .pointer none, .int .i32 0, .int .i32 0] := ⟨_, show still Tryd.prog (zeroValue 299) = some (.agg (List.toArray [.int .u64 0, .int .u64 0, .int .u32 0, .int .u8 0, .int .u8 0, .int .u8 0, .int .u8 0, .nilFunc, .pointer none, .int .i32 0, .int .i32 0])) by kernel_rfl, .agg _⟩
instance : Ag Tryd.prog 300 11 := ⟨_, Tryd.underlying300, rfl, by kernel_rfl⟩
instance : FieldAt Tryd.prog 300 0 0 := ⟨_, _, 0, Tryd.underlying300, rfl, rfl, by kernel_rfl⟩
instance : FieldAt Tryd.prog 300 1 1 := ⟨_, _, 0, Tryd.underlying300, rfl, rfl, by kernel_rfl⟩
instance : FieldAt Tryd.prog 300 2 2 := ⟨_, _, 0, Tryd.underlying300, rfl, rfl, by kernel_rfl⟩
instance : FieldAt Tryd.prog 300 3 3 := ⟨_, _, 0, Tryd.underlying300, rfl, rfl, by kernel_rfl⟩
instance : FieldAt Tryd.prog 300 4 4 := ⟨_, _, 0, Tryd.underlying300, rfl, rfl, by kernel_rfl⟩
instance : FieldAt Tryd.prog 300 5 5 := ⟨_, _, 0, Tryd.underlying300, rfl, rfl, by kernel_rfl⟩
instance : FieldAt Tryd.prog 300 6 6 := ⟨_, _, 0, Tryd.underlying300, rfl, rfl, by kernel_rfl⟩
instance : FieldAt Tryd.prog 300 7 7 := ⟨_, _, 0, Tryd.underlying300, rfl, rfl, by kernel_rfl⟩
instance : FieldAt Tryd.prog 300 8 8 := ⟨_, _, 0, Tryd.underlying300, rfl, rfl, by kernel_rfl⟩
instance : FieldAt Tryd.prog 300 9 9 := ⟨_, _, 0, Tryd.underlying300, rfl, rfl, by kernel_rfl⟩
instance : FieldAt Tryd.prog 300 10 10 := ⟨_, _, 0, Tryd.underlying300, rfl, rfl, by kernel_rfl⟩
instance : OffsT Tryd.prog 300 [(0, 1), (1, 1), (2, 1), (3, 1), (4, 1), (5, 1), (6, 1), (7, 1), (8, 1), (9, 1), (10, 1)] [.int .u64 0, .int .u64 0, .int .u32 0, .int .u8 0, .int .u8 0, .int .u8 0, .int .u8 0, .nilFunc, .pointer none, .int .i32 0, .int .i32 0] := ⟨(([(0, 1), (1, 1), (2, 1), (3, 1), (4, 1), (5, 1), (6, 1), (7, 1), (8, 1), (9, 1), (10, 1)] : List (Nat × Nat)).toArray[·]?), fun _ => by kernel_rfl, fun i p h => by simpa using h⟩
instance : ZeroT Tryd.prog 300 [.int .u64 0, .int .u64 0, .int .u32 0, .int .u8 0, .int .u8 0, .int .u8 0, .int .u8 0, .nilFunc, .pointer none, .int .i32 0, .int .i32 0] := ⟨_, show still Tryd.prog (zeroValue 300) = some (.agg (List.toArray [.int .u64 0, .int .u64 0, .int .u32 0, .int .u8 0, .int .u8 0, .int .u8 0, .int .u8 0, .nilFunc, .pointer none, .int .i32 0, .int .i32 0])) by kernel_rfl, .agg _⟩
end Go.Proofs.YthllelffblpdkaaDoor
