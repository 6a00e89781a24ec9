/- What the types of this program are. -/
import Derived.Test.YtflmckoolagikaaDoorSxB
import Derived.Test.YtflmckoolagikaaDoorRows
namespace Go.Proofs.YtflmckoolagikaaDoor
open Go Go.RowKit Go.Fw Go.Sx
set_option maxRecDepth 100000
instance : Wide Tryd.prog := ⟨by kernel_rfl⟩
instance : Sc Tryd.prog 1 := ⟨_, Tryd.underlying1, rfl, by kernel_rfl⟩
instance : ZeroT Tryd.prog 1 [.nilFunc] := ⟨.nilFunc, by kernel_rfl, .one rfl⟩
instance : Sc Tryd.prog 2 := ⟨_, Tryd.underlying2, rfl, by kernel_rfl⟩
instance : ZeroT Tryd.prog 2 [.int .i64 0] := ⟨.int .i64 0, by kernel_rfl, .one rfl⟩
instance : IntT Tryd.prog 2 .i64 := ⟨Tryd.underlying2⟩
instance : Sc Tryd.prog 3 := ⟨_, Tryd.underlying3, rfl, by kernel_rfl⟩
instance : ZeroT Tryd.prog 3 [.int .i64 0] := ⟨.int .i64 0, by kernel_rfl, .one rfl⟩
instance : IntT Tryd.prog 3 .i64 := ⟨Tryd.underlying3⟩
instance : Sc Tryd.prog 4 := ⟨_, Tryd.underlying4, rfl, by kernel_rfl⟩
instance : ZeroT Tryd.prog 4 [.bool false] := ⟨.bool false, by kernel_rfl, .one rfl⟩
instance : Sc Tryd.prog 5 := ⟨_, Tryd.underlying5, rfl, by kernel_rfl⟩
instance : ZeroT Tryd.prog 5 [.int .u8 0] := ⟨.int .u8 0, by kernel_rfl, .one rfl⟩
instance : IntT Tryd.prog 5 .u8 := ⟨Tryd.underlying5⟩
instance : Sc Tryd.prog 6 := ⟨_, Tryd.underlying6, rfl, by kernel_rfl⟩
instance : ZeroT Tryd.prog 6 [.int .u8 0] := ⟨.int .u8 0, by kernel_rfl, .one rfl⟩
instance : IntT Tryd.prog 6 .u8 := ⟨Tryd.underlying6⟩
instance : Ag Tryd.prog 7 4 := ⟨_, Tryd.underlying7, rfl, by kernel_rfl⟩
instance : FieldAt Tryd.prog 7 0 0 := ⟨_, _, 0, Tryd.underlying7, rfl, rfl, by kernel_rfl⟩
instance : FieldAt Tryd.prog 7 1 1 := ⟨_, _, 0, Tryd.underlying7, rfl, rfl, by kernel_rfl⟩
instance : FieldAt Tryd.prog 7 2 2 := ⟨_, _, 0, Tryd.underlying7, rfl, rfl, by kernel_rfl⟩
instance : FieldAt Tryd.prog 7 3 3 := ⟨_, _, 0, Tryd.underlying7, rfl, rfl, by kernel_rfl⟩
instance : OffsT Tryd.prog 7 [(0, 1), (1, 1), (2, 1), (3, 1)] [.int .i64 0, .int .i64 0, .bool false, .int .u8 0] := ⟨(([(0, 1), (1, 1), (2, 1), (3, 1)] : List (Nat × Nat)).toArray[·]?), fun _ => by kernel_rfl, fun i p h => by simpa using h⟩
instance : ZeroT Tryd.prog 7 [.int .i64 0, .int .i64 0, .bool false, .int .u8 0] := ⟨_, show still Tryd.prog (zeroValue 7) = some (.agg (List.toArray [.int .i64 0, .int .i64 0, .bool false, .int .u8 0])) by kernel_rfl, .agg _⟩
instance : Ag Tryd.prog 8 4 := ⟨_, Tryd.underlying8, rfl, by kernel_rfl⟩
instance : FieldAt Tryd.prog 8 0 0 := ⟨_, _, 0, Tryd.underlying8, rfl, rfl, by kernel_rfl⟩
instance : FieldAt Tryd.prog 8 1 1 := ⟨_, _, 0, Tryd.underlying8, rfl, rfl, by kernel_rfl⟩
instance : FieldAt Tryd.prog 8 2 2 := ⟨_, _, 0, Tryd.underlying8, rfl, rfl, by kernel_rfl⟩
instance : FieldAt Tryd.prog 8 3 3 := ⟨_, _, 0, Tryd.underlying8, rfl, rfl, by kernel_rfl⟩
instance : OffsT Tryd.prog 8 [(0, 1), (1, 1), (2, 1), (3, 1)] [.int .i64 0, .int .i64 0, .bool false, .int .u8 0] := ⟨(([(0, 1), (1, 1), (2, 1), (3, 1)] : List (Nat × Nat)).toArray[·]?), fun _ => by kernel_rfl, fun i p h => by simpa using h⟩
instance : ZeroT Tryd.prog 8 [.int .i64 0, .int .i64 0, .bool false, .int .u8 0] := ⟨_, show still Tryd.prog (zeroValue 8) = some (.agg (List.toArray [.int .i64 0, .int .i64 0, .bool false, .int .u8 0])) by kernel_rfl, .agg _⟩
instance : Sc Tryd.prog 9 := ⟨_, Tryd.underlying9, rfl, by kernel_rfl⟩
instance : ZeroT Tryd.prog 9 [.string .empty] := ⟨.string .empty, by kernel_rfl, .one rfl⟩
instance : StrT Tryd.prog 9 := ⟨Tryd.underlying9⟩
instance : Sc Tryd.prog 10 := ⟨_, Tryd.underlying10, rfl, by kernel_rfl⟩
instance : ZeroT Tryd.prog 10 [.string .empty] := ⟨.string .empty, by kernel_rfl, .one rfl⟩
instance : StrT Tryd.prog 10 := ⟨Tryd.underlying10⟩
instance : Sc Tryd.prog 11 := ⟨_, Tryd.underlying11, rfl, by kernel_rfl⟩
instance : ZeroT Tryd.prog 11 [.string .empty] := ⟨.string .empty, by kernel_rfl, .one rfl⟩
instance : StrT Tryd.prog 11 := ⟨Tryd.underlying11⟩
instance : Sc Tryd.prog 12 := ⟨_, Tryd.underlying12, rfl, by kernel_rfl⟩
instance : ZeroT Tryd.prog 12 [.int .u64 0] := ⟨.int .u64 0, by kernel_rfl, .one rfl⟩
instance : IntT Tryd.prog 12 .u64 := ⟨Tryd.underlying12⟩
instance : Ag Tryd.prog 13 2 := ⟨_, Tryd.underlying13, rfl, by kernel_rfl⟩
instance : FieldAt Tryd.prog 13 0 0 := ⟨_, _, 0, Tryd.underlying13, rfl, rfl, by kernel_rfl⟩
instance : FieldAt Tryd.prog 13 1 1 := ⟨_, _, 0, Tryd.underlying13, rfl, rfl, by kernel_rfl⟩
instance : OffsT Tryd.prog 13 [(0, 1), (1, 1)] [.string .empty, .int .u64 0] := ⟨(([(0, 1), (1, 1)] : List (Nat × Nat)).toArray[·]?), fun _ => by kernel_rfl, fun i p h => by simpa using h⟩
instance : ZeroT Tryd.prog 13 [.string .empty, .int .u64 0] := ⟨_, show still Tryd.prog (zeroValue 13) = some (.agg (List.toArray [.string .empty, .int .u64 0])) by kernel_rfl, .agg _⟩
instance : Ag Tryd.prog 14 2 := ⟨_, Tryd.underlying14, rfl, by kernel_rfl⟩
instance : FieldAt Tryd.prog 14 0 0 := ⟨_, _, 0, Tryd.underlying14, rfl, rfl, by kernel_rfl⟩
instance : FieldAt Tryd.prog 14 1 1 := ⟨_, _, 0, Tryd.underlying14, rfl, rfl, by kernel_rfl⟩
instance : OffsT Tryd.prog 14 [(0, 1), (1, 1)] [.string .empty, .int .u64 0] := ⟨(([(0, 1), (1, 1)] : List (Nat × Nat)).toArray[·]?), fun _ => by kernel_rfl, fun i p h => by simpa using h⟩
instance : ZeroT Tryd.prog 14 [.string .empty, .int .u64 0] := ⟨_, show still Tryd.prog (zeroValue 14) = some (.agg (List.toArray [.string .empty, .int .u64 0])) by kernel_rfl, .agg _⟩
instance : Sc Tryd.prog 15 := ⟨_, Tryd.underlying15, rfl, by kernel_rfl⟩
instance : ZeroT Tryd.prog 15 [.pointer none] := ⟨.pointer none, by kernel_rfl, .one rfl⟩
instance : Sc Tryd.prog 16 := ⟨_, Tryd.underlying16, rfl, by kernel_rfl⟩
instance : ZeroT Tryd.prog 16 [.pointer none] := ⟨.pointer none, by kernel_rfl, .one rfl⟩
instance : Sc Tryd.prog 17 := ⟨_, Tryd.underlying17, rfl, by kernel_rfl⟩
instance : ZeroT Tryd.prog 17 [.pointer none] := ⟨.pointer none, by kernel_rfl, .one rfl⟩
instance : Ag Tryd.prog 18 1 := ⟨_, Tryd.underlying18, rfl, by kernel_rfl⟩
instance : FieldAt Tryd.prog 18 0 0 := ⟨_, _, 0, Tryd.underlying18, rfl, rfl, by kernel_rfl⟩
instance : OffsT Tryd.prog 18 [(0, 1)] [.pointer none] := ⟨(([(0, 1)] : List (Nat × Nat)).toArray[·]?), fun _ => by kernel_rfl, fun i p h => by simpa using h⟩
instance : ZeroT Tryd.prog 18 [.pointer none] := ⟨_, show still Tryd.prog (zeroValue 18) = some (.agg (List.toArray [.pointer none])) by kernel_rfl, .agg _⟩
instance : Ag Tryd.prog 19 1 := ⟨_, Tryd.underlying19, rfl, by kernel_rfl⟩
instance : FieldAt Tryd.prog 19 0 0 := ⟨_, _, 0, Tryd.underlying19, rfl, rfl, by kernel_rfl⟩
instance : OffsT Tryd.prog 19 [(0, 1)] [.pointer none] := ⟨(([(0, 1)] : List (Nat × Nat)).toArray[·]?), fun _ => by kernel_rfl, fun i p h => by simpa using h⟩
instance : ZeroT Tryd.prog 19 [.pointer none] := ⟨_, show still Tryd.prog (zeroValue 19) = some (.agg (List.toArray [.pointer none])) by kernel_rfl, .agg _⟩
instance : Sc Tryd.prog 20 := ⟨_, Tryd.underlying20, rfl, by kernel_rfl⟩
instance : ZeroT Tryd.prog 20 [.nilIface] := ⟨.nilIface, by kernel_rfl, .one rfl⟩
instance : Sc Tryd.prog 21 := ⟨_, Tryd.underlying21, rfl, by kernel_rfl⟩
instance : ZeroT Tryd.prog 21 [.int .i32 0] := ⟨.int .i32 0, by kernel_rfl, .one rfl⟩
instance : IntT Tryd.prog 21 .i32 := ⟨Tryd.underlying21⟩
instance : Ag Tryd.prog 22 5 := ⟨_, Tryd.underlying22, rfl, by kernel_rfl⟩
instance : FieldAt Tryd.prog 22 0 0 := ⟨_, _, 0, Tryd.underlying22, rfl, rfl, by kernel_rfl⟩
instance : FieldAt Tryd.prog 22 1 1 := ⟨_, _, 0, Tryd.underlying22, rfl, rfl, by kernel_rfl⟩
instance : FieldAt Tryd.prog 22 2 2 := ⟨_, _, 0, Tryd.underlying22, rfl, rfl, by kernel_rfl⟩
instance : FieldAt Tryd.prog 22 3 3 := ⟨_, _, 0, Tryd.underlying22, rfl, rfl, by kernel_rfl⟩
instance : FieldAt Tryd.prog 22 4 4 := ⟨_, _, 0, Tryd.underlying22, rfl, rfl, by kernel_rfl⟩
instance : OffsT Tryd.prog 22 [(0, 1), (1, 1), (2, 1), (3, 1), (4, 1)] [.int .i64 0, .int .i64 0, .string .empty, .string .empty, .string .empty] := ⟨(([(0, 1), (1, 1), (2, 1), (3, 1), (4, 1)] : List (Nat × Nat)).toArray[·]?), fun _ => by kernel_rfl, fun i p h => by simpa using h⟩
instance : ZeroT Tryd.prog 22 [.int .i64 0, .int .i64 0, .string .empty, .string .empty, .string .empty] := ⟨_, show still Tryd.prog (zeroValue 22) = some (.agg (List.toArray [.int .i64 0, .int .i64 0, .string .empty, .string .empty, .string .empty])) by kernel_rfl, .agg _⟩
instance : Ag Tryd.prog 23 5 := ⟨_, Tryd.underlying23, rfl, by kernel_rfl⟩
instance : FieldAt Tryd.prog 23 0 0 := ⟨_, _, 0, Tryd.underlying23, rfl, rfl, by kernel_rfl⟩
instance : FieldAt Tryd.prog 23 1 1 := ⟨_, _, 0, Tryd.underlying23, rfl, rfl, by kernel_rfl⟩
instance : FieldAt Tryd.prog 23 2 2 := ⟨_, _, 0, Tryd.underlying23, rfl, rfl, by kernel_rfl⟩
instance : FieldAt Tryd.prog 23 3 3 := ⟨_, _, 0, Tryd.underlying23, rfl, rfl, by kernel_rfl⟩
instance : FieldAt Tryd.prog 23 4 4 := ⟨_, _, 0, Tryd.underlying23, rfl, rfl, by kernel_rfl⟩
instance : OffsT Tryd.prog 23 [(0, 1), (1, 1), (2, 1), (3, 1), (4, 1)] [.int .i64 0, .int .i64 0, .string .empty, .string .empty, .string .empty] := ⟨(([(0, 1), (1, 1), (2, 1), (3, 1), (4, 1)] : List (Nat × Nat)).toArray[·]?), fun _ => by kernel_rfl, fun i p h => by simpa using h⟩
instance : ZeroT Tryd.prog 23 [.int .i64 0, .int .i64 0, .string .empty, .string .empty, .string .empty] := ⟨_, show still Tryd.prog (zeroValue 23) = some (.agg (List.toArray [.int .i64 0, .int .i64 0, .string .empty, .string .empty, .string .empty])) by kernel_rfl, .agg _⟩
instance : Sc Tryd.prog 24 := ⟨_, Tryd.underlying24, rfl, by kernel_rfl⟩
instance : ZeroT Tryd.prog 24 [.slice none 0 0] := ⟨.slice none 0 0, by kernel_rfl, .one rfl⟩
instance : SliceT Tryd.prog 24 3 1 8 := ⟨Tryd.underlying24, by decide, by decide, .int .i64 0, by kernel_rfl, by kernel_rfl⟩
instance : Sc Tryd.prog 25 := ⟨_, Tryd.underlying25, rfl, by kernel_rfl⟩
instance : ZeroT Tryd.prog 25 [.slice none 0 0] := ⟨.slice none 0 0, by kernel_rfl, .one rfl⟩
instance : SliceT Tryd.prog 25 35 6 80 := ⟨Tryd.underlying25, by decide, by decide, .agg #[.int .i64 0, .int .i64 0, .int .i64 0, .string .empty, .slice none 0 0, .string .empty], by kernel_rfl, by kernel_rfl⟩
instance : Sc Tryd.prog 26 := ⟨_, Tryd.underlying26, rfl, by kernel_rfl⟩
instance : ZeroT Tryd.prog 26 [.int .i64 0] := ⟨.int .i64 0, by kernel_rfl, .one rfl⟩
instance : IntT Tryd.prog 26 .i64 := ⟨Tryd.underlying26⟩
instance : Sc Tryd.prog 28 := ⟨_, Tryd.underlying28, rfl, by kernel_rfl⟩
instance : ZeroT Tryd.prog 28 [.nilFunc] := ⟨.nilFunc, by kernel_rfl, .one rfl⟩
instance : Sc Tryd.prog 29 := ⟨_, Tryd.underlying29, rfl, by kernel_rfl⟩
instance : ZeroT Tryd.prog 29 [.nilFunc] := ⟨.nilFunc, by kernel_rfl, .one rfl⟩
instance : Sc Tryd.prog 31 := ⟨_, Tryd.underlying31, rfl, by kernel_rfl⟩
instance : ZeroT Tryd.prog 31 [.nilFunc] := ⟨.nilFunc, by kernel_rfl, .one rfl⟩
instance : Sc Tryd.prog 32 := ⟨_, Tryd.underlying32, rfl, by kernel_rfl⟩
instance : ZeroT Tryd.prog 32 [.nilFunc] := ⟨.nilFunc, by kernel_rfl, .one rfl⟩
instance : Sc Tryd.prog 33 := ⟨_, Tryd.underlying33, rfl, by kernel_rfl⟩
instance : ZeroT Tryd.prog 33 [.nilFunc] := ⟨.nilFunc, by kernel_rfl, .one rfl⟩
instance : Ag Tryd.prog 34 6 := ⟨_, Tryd.underlying34, rfl, by kernel_rfl⟩
instance : FieldAt Tryd.prog 34 0 0 := ⟨_, _, 0, Tryd.underlying34, rfl, rfl, by kernel_rfl⟩
instance : FieldAt Tryd.prog 34 1 1 := ⟨_, _, 0, Tryd.underlying34, rfl, rfl, by kernel_rfl⟩
instance : FieldAt Tryd.prog 34 2 2 := ⟨_, _, 0, Tryd.underlying34, rfl, rfl, by kernel_rfl⟩
instance : FieldAt Tryd.prog 34 3 3 := ⟨_, _, 0, Tryd.underlying34, rfl, rfl, by kernel_rfl⟩
instance : FieldAt Tryd.prog 34 4 4 := ⟨_, _, 0, Tryd.underlying34, rfl, rfl, by kernel_rfl⟩
instance : FieldAt Tryd.prog 34 5 5 := ⟨_, _, 0, Tryd.underlying34, rfl, rfl, by kernel_rfl⟩
instance : OffsT Tryd.prog 34 [(0, 1), (1, 1), (2, 1), (3, 1), (4, 1), (5, 1)] [.int .i64 0, .int .i64 0, .int .i64 0, .string .empty, .slice none 0 0, .string .empty] := ⟨(([(0, 1), (1, 1), (2, 1), (3, 1), (4, 1), (5, 1)] : List (Nat × Nat)).toArray[·]?), fun _ => by kernel_rfl, fun i p h => by simpa using h⟩
instance : ZeroT Tryd.prog 34 [.int .i64 0, .int .i64 0, .int .i64 0, .string .empty, .slice none 0 0, .string .empty] := ⟨_, show still Tryd.prog (zeroValue 34) = some (.agg (List.toArray [.int .i64 0, .int .i64 0, .int .i64 0, .string .empty, .slice none 0 0, .string .empty])) by kernel_rfl, .agg _⟩
instance : Ag Tryd.prog 35 6 := ⟨_, Tryd.underlying35, rfl, by kernel_rfl⟩
instance : FieldAt Tryd.prog 35 0 0 := ⟨_, _, 0, Tryd.underlying35, rfl, rfl, by kernel_rfl⟩
instance : FieldAt Tryd.prog 35 1 1 := ⟨_, _, 0, Tryd.underlying35, rfl, rfl, by kernel_rfl⟩
instance : FieldAt Tryd.prog 35 2 2 := ⟨_, _, 0, Tryd.underlying35, rfl, rfl, by kernel_rfl⟩
instance : FieldAt Tryd.prog 35 3 3 := ⟨_, _, 0, Tryd.underlying35, rfl, rfl, by kernel_rfl⟩
instance : FieldAt Tryd.prog 35 4 4 := ⟨_, _, 0, Tryd.underlying35, rfl, rfl, by kernel_rfl⟩
instance : FieldAt Tryd.prog 35 5 5 := ⟨_, _, 0, Tryd.underlying35, rfl, rfl, by kernel_rfl⟩
instance : OffsT Tryd.prog 35 [(0, 1), (1, 1), (2, 1), (3, 1), (4, 1), (5, 1)] [.int .i64 0, .int .i64 0, .int .i64 0, .string .empty, .slice none 0 0, .string .empty] := ⟨(([(0, 1), (1, 1), (2, 1), (3, 1), (4, 1), (5, 1)] : List (Nat × Nat)).toArray[·]?), fun _ => by kernel_rfl, fun i p h => by simpa using h⟩
instance : ZeroT Tryd.prog 35 [.int .i64 0, .int .i64 0, .int .i64 0, .string .empty, .slice none 0 0, .string .empty] := ⟨_, show still Tryd.prog (zeroValue 35) = some (.agg (List.toArray [.int .i64 0, .int .i64 0, .int .i64 0, .string .empty, .slice none 0 0, .string .empty])) by kernel_rfl, .agg _⟩
instance : Sc Tryd.prog 37 := ⟨_, Tryd.underlying37, rfl, by kernel_rfl⟩
instance : ZeroT Tryd.prog 37 [.nilFunc] := ⟨.nilFunc, by kernel_rfl, .one rfl⟩
instance : Sc Tryd.prog 38 := ⟨_, Tryd.underlying38, rfl, by kernel_rfl⟩
instance : ZeroT Tryd.prog 38 [.nilFunc] := ⟨.nilFunc, by kernel_rfl, .one rfl⟩
instance : Sc Tryd.prog 39 := ⟨_, Tryd.underlying39, rfl, by kernel_rfl⟩
instance : ZeroT Tryd.prog 39 [.nilFunc] := ⟨.nilFunc, by kernel_rfl, .one rfl⟩
instance : Ag Tryd.prog 40 5 := ⟨_, Tryd.underlying40, rfl, by kernel_rfl⟩
instance : FieldAt Tryd.prog 40 0 0 := ⟨_, _, 0, Tryd.underlying40, rfl, rfl, by kernel_rfl⟩
instance : FieldAt Tryd.prog 40 1 1 := ⟨_, _, 0, Tryd.underlying40, rfl, rfl, by kernel_rfl⟩
instance : FieldAt Tryd.prog 40 2 2 := ⟨_, _, 0, Tryd.underlying40, rfl, rfl, by kernel_rfl⟩
instance : FieldAt Tryd.prog 40 3 3 := ⟨_, _, 0, Tryd.underlying40, rfl, rfl, by kernel_rfl⟩
instance : FieldAt Tryd.prog 40 4 4 := ⟨_, _, 0, Tryd.underlying40, rfl, rfl, by kernel_rfl⟩
instance : OffsT Tryd.prog 40 [(0, 1), (1, 1), (2, 1), (3, 1), (4, 1)] [.int .i64 0, .int .i64 0, .int .i64 0, .int .i64 0, .bool false] := ⟨(([(0, 1), (1, 1), (2, 1), (3, 1), (4, 1)] : List (Nat × Nat)).toArray[·]?), fun _ => by kernel_rfl, fun i p h => by simpa using h⟩
instance : ZeroT Tryd.prog 40 [.int .i64 0, .int .i64 0, .int .i64 0, .int .i64 0, .bool false] := ⟨_, show still Tryd.prog (zeroValue 40) = some (.agg (List.toArray [.int .i64 0, .int .i64 0, .int .i64 0, .int .i64 0, .bool false])) by kernel_rfl, .agg _⟩
instance : Ag Tryd.prog 41 5 := ⟨_, Tryd.underlying41, rfl, by kernel_rfl⟩
instance : FieldAt Tryd.prog 41 0 0 := ⟨_, _, 0, Tryd.underlying41, rfl, rfl, by kernel_rfl⟩
instance : FieldAt Tryd.prog 41 1 1 := ⟨_, _, 0, Tryd.underlying41, rfl, rfl, by kernel_rfl⟩
instance : FieldAt Tryd.prog 41 2 2 := ⟨_, _, 0, Tryd.underlying41, rfl, rfl, by kernel_rfl⟩
instance : FieldAt Tryd.prog 41 3 3 := ⟨_, _, 0, Tryd.underlying41, rfl, rfl, by kernel_rfl⟩
instance : FieldAt Tryd.prog 41 4 4 := ⟨_, _, 0, Tryd.underlying41, rfl, rfl, by kernel_rfl⟩
instance : OffsT Tryd.prog 41 [(0, 1), (1, 1), (2, 1), (3, 1), (4, 1)] [.int .i64 0, .int .i64 0, .int .i64 0, .int .i64 0, .bool false] := ⟨(([(0, 1), (1, 1), (2, 1), (3, 1), (4, 1)] : List (Nat × Nat)).toArray[·]?), fun _ => by kernel_rfl, fun i p h => by simpa using h⟩
instance : ZeroT Tryd.prog 41 [.int .i64 0, .int .i64 0, .int .i64 0, .int .i64 0, .bool false] := ⟨_, show still Tryd.prog (zeroValue 41) = some (.agg (List.toArray [.int .i64 0, .int .i64 0, .int .i64 0, .int .i64 0, .bool false])) by kernel_rfl, .agg _⟩
instance : Sc Tryd.prog 43 := ⟨_, Tryd.underlying43, rfl, by kernel_rfl⟩
instance : ZeroT Tryd.prog 43 [.nilFunc] := ⟨.nilFunc, by kernel_rfl, .one rfl⟩
instance : Sc Tryd.prog 45 := ⟨_, Tryd.underlying45, rfl, by kernel_rfl⟩
instance : ZeroT Tryd.prog 45 [.nilFunc] := ⟨.nilFunc, by kernel_rfl, .one rfl⟩
instance : Sc Tryd.prog 46 := ⟨_, Tryd.underlying46, rfl, by kernel_rfl⟩
instance : ZeroT Tryd.prog 46 [.nilFunc] := ⟨.nilFunc, by kernel_rfl, .one rfl⟩
instance : Sc Tryd.prog 47 := ⟨_, Tryd.underlying47, rfl, by kernel_rfl⟩
instance : ZeroT Tryd.prog 47 [.slice none 0 0] := ⟨.slice none 0 0, by kernel_rfl, .one rfl⟩
instance : SliceT Tryd.prog 47 121 4 40 := ⟨Tryd.underlying47, by decide, by decide, .agg #[.string .empty, .string .empty, .bool false, .bool false], by kernel_rfl, by kernel_rfl⟩
instance : Sc Tryd.prog 48 := ⟨_, Tryd.underlying48, rfl, by kernel_rfl⟩
instance : ZeroT Tryd.prog 48 [.nilFunc] := ⟨.nilFunc, by kernel_rfl, .one rfl⟩
instance : Sc Tryd.prog 49 := ⟨_, Tryd.underlying49, rfl, by kernel_rfl⟩
instance : ZeroT Tryd.prog 49 [.nilFunc] := ⟨.nilFunc, by kernel_rfl, .one rfl⟩
instance : Sc Tryd.prog 50 := ⟨_, Tryd.underlying50, rfl, by kernel_rfl⟩
instance : ZeroT Tryd.prog 50 [.slice none 0 0] := ⟨.slice none 0 0, by kernel_rfl, .one rfl⟩
instance : SliceT Tryd.prog 50 9 1 16 := ⟨Tryd.underlying50, by decide, by decide, .string .empty, by kernel_rfl, by kernel_rfl⟩
instance : Sc Tryd.prog 51 := ⟨_, Tryd.underlying51, rfl, by kernel_rfl⟩
instance : ZeroT Tryd.prog 51 [.int .u64 0] := ⟨.int .u64 0, by kernel_rfl, .one rfl⟩
instance : IntT Tryd.prog 51 .u64 := ⟨Tryd.underlying51⟩
instance : Ag Tryd.prog 52 4 := ⟨_, Tryd.underlying52, rfl, by kernel_rfl⟩
instance : ArrT Tryd.prog 52 4 51 1 := ⟨Tryd.underlying52, by kernel_rfl⟩
instance : OffsT Tryd.prog 52 (arrOffs 4 1) [.int .u64 0, .int .u64 0, .int .u64 0, .int .u64 0] := ⟨fun i => some (i * 1, 1), fun _ => by kernel_rfl, arrOffs_at 4 1⟩
instance : ZeroT Tryd.prog 52 [.int .u64 0, .int .u64 0, .int .u64 0, .int .u64 0] := ⟨_, show still Tryd.prog (zeroValue 52) = some (.agg (List.toArray [.int .u64 0, .int .u64 0, .int .u64 0, .int .u64 0])) by kernel_rfl, .agg _⟩
instance : Ag Tryd.prog 53 8 := ⟨_, Tryd.underlying53, rfl, by kernel_rfl⟩
instance : FieldAt Tryd.prog 53 0 0 := ⟨_, _, 3, Tryd.underlying53, rfl, rfl, by kernel_rfl⟩
instance : FieldAt Tryd.prog 53 1 4 := ⟨_, _, 3, Tryd.underlying53, rfl, rfl, by kernel_rfl⟩
instance : OffsT Tryd.prog 53 [(0, 4), (4, 4)] [.int .u64 0, .int .u64 0, .int .u64 0, .int .u64 0, .int .u64 0, .int .u64 0, .int .u64 0, .int .u64 0] := ⟨(([(0, 4), (4, 4)] : List (Nat × Nat)).toArray[·]?), fun _ => by kernel_rfl, fun i p h => by simpa using h⟩
instance : ZeroT Tryd.prog 53 [.int .u64 0, .int .u64 0, .int .u64 0, .int .u64 0, .int .u64 0, .int .u64 0, .int .u64 0, .int .u64 0] := ⟨_, show still Tryd.prog (zeroValue 53) = some (.agg (List.toArray [.int .u64 0, .int .u64 0, .int .u64 0, .int .u64 0, .int .u64 0, .int .u64 0, .int .u64 0, .int .u64 0])) by kernel_rfl, .agg _⟩
instance : Ag Tryd.prog 54 8 := ⟨_, Tryd.underlying54, rfl, by kernel_rfl⟩
instance : FieldAt Tryd.prog 54 0 0 := ⟨_, _, 3, Tryd.underlying54, rfl, rfl, by kernel_rfl⟩
instance : FieldAt Tryd.prog 54 1 4 := ⟨_, _, 3, Tryd.underlying54, rfl, rfl, by kernel_rfl⟩
instance : OffsT Tryd.prog 54 [(0, 4), (4, 4)] [.int .u64 0, .int .u64 0, .int .u64 0, .int .u64 0, .int .u64 0, .int .u64 0, .int .u64 0, .int .u64 0] := ⟨(([(0, 4), (4, 4)] : List (Nat × Nat)).toArray[·]?), fun _ => by kernel_rfl, fun i p h => by simpa using h⟩
instance : ZeroT Tryd.prog 54 [.int .u64 0, .int .u64 0, .int .u64 0, .int .u64 0, .int .u64 0, .int .u64 0, .int .u64 0, .int .u64 0] := ⟨_, show still Tryd.prog (zeroValue 54) = some (.agg (List.toArray [.int .u64 0, .int .u64 0, .int .u64 0, .int .u64 0, .int .u64 0, .int .u64 0, .int .u64 0, .int .u64 0])) by kernel_rfl, .agg _⟩
instance : Ag Tryd.prog 55 5 := ⟨_, Tryd.underlying55, rfl, by kernel_rfl⟩
instance : FieldAt Tryd.prog 55 0 0 := ⟨_, _, 0, Tryd.underlying55, rfl, rfl, by kernel_rfl⟩
instance : FieldAt Tryd.prog 55 1 1 := ⟨_, _, 0, Tryd.underlying55, rfl, rfl, by kernel_rfl⟩
instance : FieldAt Tryd.prog 55 2 2 := ⟨_, _, 0, Tryd.underlying55, rfl, rfl, by kernel_rfl⟩
instance : FieldAt Tryd.prog 55 3 3 := ⟨_, _, 0, Tryd.underlying55, rfl, rfl, by kernel_rfl⟩
instance : FieldAt Tryd.prog 55 4 4 := ⟨_, _, 0, Tryd.underlying55, rfl, rfl, by kernel_rfl⟩
instance : OffsT Tryd.prog 55 [(0, 1), (1, 1), (2, 1), (3, 1), (4, 1)] [.int .i64 0, .int .i64 0, .int .i64 0, .string .empty, .bool false] := ⟨(([(0, 1), (1, 1), (2, 1), (3, 1), (4, 1)] : List (Nat × Nat)).toArray[·]?), fun _ => by kernel_rfl, fun i p h => by simpa using h⟩
instance : ZeroT Tryd.prog 55 [.int .i64 0, .int .i64 0, .int .i64 0, .string .empty, .bool false] := ⟨_, show still Tryd.prog (zeroValue 55) = some (.agg (List.toArray [.int .i64 0, .int .i64 0, .int .i64 0, .string .empty, .bool false])) by kernel_rfl, .agg _⟩
instance : Ag Tryd.prog 56 5 := ⟨_, Tryd.underlying56, rfl, by kernel_rfl⟩
instance : FieldAt Tryd.prog 56 0 0 := ⟨_, _, 0, Tryd.underlying56, rfl, rfl, by kernel_rfl⟩
instance : FieldAt Tryd.prog 56 1 1 := ⟨_, _, 0, Tryd.underlying56, rfl, rfl, by kernel_rfl⟩
instance : FieldAt Tryd.prog 56 2 2 := ⟨_, _, 0, Tryd.underlying56, rfl, rfl, by kernel_rfl⟩
instance : FieldAt Tryd.prog 56 3 3 := ⟨_, _, 0, Tryd.underlying56, rfl, rfl, by kernel_rfl⟩
instance : FieldAt Tryd.prog 56 4 4 := ⟨_, _, 0, Tryd.underlying56, rfl, rfl, by kernel_rfl⟩
instance : OffsT Tryd.prog 56 [(0, 1), (1, 1), (2, 1), (3, 1), (4, 1)] [.int .i64 0, .int .i64 0, .int .i64 0, .string .empty, .bool false] := ⟨(([(0, 1), (1, 1), (2, 1), (3, 1), (4, 1)] : List (Nat × Nat)).toArray[·]?), fun _ => by kernel_rfl, fun i p h => by simpa using h⟩
instance : ZeroT Tryd.prog 56 [.int .i64 0, .int .i64 0, .int .i64 0, .string .empty, .bool false] := ⟨_, show still Tryd.prog (zeroValue 56) = some (.agg (List.toArray [.int .i64 0, .int .i64 0, .int .i64 0, .string .empty, .bool false])) by kernel_rfl, .agg _⟩
instance : Sc Tryd.prog 57 := ⟨_, Tryd.underlying57, rfl, by kernel_rfl⟩
instance : ZeroT Tryd.prog 57 [.slice none 0 0] := ⟨.slice none 0 0, by kernel_rfl, .one rfl⟩
instance : SliceT Tryd.prog 57 170 4 32 := ⟨Tryd.underlying57, by decide, by decide, .agg #[.int .i64 0, .int .i64 0, .int .i64 0, .int .i64 0], by kernel_rfl, by kernel_rfl⟩
instance : Ag Tryd.prog 58 3 := ⟨_, Tryd.underlying58, rfl, by kernel_rfl⟩
instance : FieldAt Tryd.prog 58 0 0 := ⟨_, _, 0, Tryd.underlying58, rfl, rfl, by kernel_rfl⟩
instance : FieldAt Tryd.prog 58 1 1 := ⟨_, _, 0, Tryd.underlying58, rfl, rfl, by kernel_rfl⟩
instance : FieldAt Tryd.prog 58 2 2 := ⟨_, _, 0, Tryd.underlying58, rfl, rfl, by kernel_rfl⟩
instance : OffsT Tryd.prog 58 [(0, 1), (1, 1), (2, 1)] [.int .i64 0, .int .i64 0, .slice none 0 0] := ⟨(([(0, 1), (1, 1), (2, 1)] : List (Nat × Nat)).toArray[·]?), fun _ => by kernel_rfl, fun i p h => by simpa using h⟩
instance : ZeroT Tryd.prog 58 [.int .i64 0, .int .i64 0, .slice none 0 0] := ⟨_, show still Tryd.prog (zeroValue 58) = some (.agg (List.toArray [.int .i64 0, .int .i64 0, .slice none 0 0])) by kernel_rfl, .agg _⟩
instance : Ag Tryd.prog 59 3 := ⟨_, Tryd.underlying59, rfl, by kernel_rfl⟩
instance : FieldAt Tryd.prog 59 0 0 := ⟨_, _, 0, Tryd.underlying59, rfl, rfl, by kernel_rfl⟩
instance : FieldAt Tryd.prog 59 1 1 := ⟨_, _, 0, Tryd.underlying59, rfl, rfl, by kernel_rfl⟩
instance : FieldAt Tryd.prog 59 2 2 := ⟨_, _, 0, Tryd.underlying59, rfl, rfl, by kernel_rfl⟩
instance : OffsT Tryd.prog 59 [(0, 1), (1, 1), (2, 1)] [.int .i64 0, .int .i64 0, .slice none 0 0] := ⟨(([(0, 1), (1, 1), (2, 1)] : List (Nat × Nat)).toArray[·]?), fun _ => by kernel_rfl, fun i p h => by simpa using h⟩
instance : ZeroT Tryd.prog 59 [.int .i64 0, .int .i64 0, .slice none 0 0] := ⟨_, show still Tryd.prog (zeroValue 59) = some (.agg (List.toArray [.int .i64 0, .int .i64 0, .slice none 0 0])) by kernel_rfl, .agg _⟩
instance : Ag Tryd.prog 60 3 := ⟨_, Tryd.underlying60, rfl, by kernel_rfl⟩
instance : FieldAt Tryd.prog 60 0 0 := ⟨_, _, 0, Tryd.underlying60, rfl, rfl, by kernel_rfl⟩
instance : FieldAt Tryd.prog 60 1 1 := ⟨_, _, 0, Tryd.underlying60, rfl, rfl, by kernel_rfl⟩
instance : FieldAt Tryd.prog 60 2 2 := ⟨_, _, 0, Tryd.underlying60, rfl, rfl, by kernel_rfl⟩
instance : OffsT Tryd.prog 60 [(0, 1), (1, 1), (2, 1)] [.int .i64 0, .int .i64 0, .int .i64 0] := ⟨(([(0, 1), (1, 1), (2, 1)] : List (Nat × Nat)).toArray[·]?), fun _ => by kernel_rfl, fun i p h => by simpa using h⟩
instance : ZeroT Tryd.prog 60 [.int .i64 0, .int .i64 0, .int .i64 0] := ⟨_, show still Tryd.prog (zeroValue 60) = some (.agg (List.toArray [.int .i64 0, .int .i64 0, .int .i64 0])) by kernel_rfl, .agg _⟩
instance : Ag Tryd.prog 61 3 := ⟨_, Tryd.underlying61, rfl, by kernel_rfl⟩
instance : FieldAt Tryd.prog 61 0 0 := ⟨_, _, 0, Tryd.underlying61, rfl, rfl, by kernel_rfl⟩
instance : FieldAt Tryd.prog 61 1 1 := ⟨_, _, 0, Tryd.underlying61, rfl, rfl, by kernel_rfl⟩
instance : FieldAt Tryd.prog 61 2 2 := ⟨_, _, 0, Tryd.underlying61, rfl, rfl, by kernel_rfl⟩
instance : OffsT Tryd.prog 61 [(0, 1), (1, 1), (2, 1)] [.int .i64 0, .int .i64 0, .int .i64 0] := ⟨(([(0, 1), (1, 1), (2, 1)] : List (Nat × Nat)).toArray[·]?), fun _ => by kernel_rfl, fun i p h => by simpa using h⟩
instance : ZeroT Tryd.prog 61 [.int .i64 0, .int .i64 0, .int .i64 0] := ⟨_, show still Tryd.prog (zeroValue 61) = some (.agg (List.toArray [.int .i64 0, .int .i64 0, .int .i64 0])) by kernel_rfl, .agg _⟩
instance : Ag Tryd.prog 62 4 := ⟨_, Tryd.underlying62, rfl, by kernel_rfl⟩
instance : FieldAt Tryd.prog 62 0 0 := ⟨_, _, 3, Tryd.underlying62, rfl, rfl, by kernel_rfl⟩
instance : OffsT Tryd.prog 62 [(0, 4)] [.int .u64 0, .int .u64 0, .int .u64 0, .int .u64 0] := ⟨(([(0, 4)] : List (Nat × Nat)).toArray[·]?), fun _ => by kernel_rfl, fun i p h => by simpa using h⟩
instance : ZeroT Tryd.prog 62 [.int .u64 0, .int .u64 0, .int .u64 0, .int .u64 0] := ⟨_, show still Tryd.prog (zeroValue 62) = some (.agg (List.toArray [.int .u64 0, .int .u64 0, .int .u64 0, .int .u64 0])) by kernel_rfl, .agg _⟩
instance : Ag Tryd.prog 63 4 := ⟨_, Tryd.underlying63, rfl, by kernel_rfl⟩
instance : FieldAt Tryd.prog 63 0 0 := ⟨_, _, 3, Tryd.underlying63, rfl, rfl, by kernel_rfl⟩
instance : OffsT Tryd.prog 63 [(0, 4)] [.int .u64 0, .int .u64 0, .int .u64 0, .int .u64 0] := ⟨(([(0, 4)] : List (Nat × Nat)).toArray[·]?), fun _ => by kernel_rfl, fun i p h => by simpa using h⟩
instance : ZeroT Tryd.prog 63 [.int .u64 0, .int .u64 0, .int .u64 0, .int .u64 0] := ⟨_, show still Tryd.prog (zeroValue 63) = some (.agg (List.toArray [.int .u64 0, .int .u64 0, .int .u64 0, .int .u64 0])) by kernel_rfl, .agg _⟩
instance : Ag Tryd.prog 64 2 := ⟨_, Tryd.underlying64, rfl, by kernel_rfl⟩
instance : ArrT Tryd.prog 64 2 3 1 := ⟨Tryd.underlying64, by kernel_rfl⟩
instance : OffsT Tryd.prog 64 (arrOffs 2 1) [.int .i64 0, .int .i64 0] := ⟨fun i => some (i * 1, 1), fun _ => by kernel_rfl, arrOffs_at 2 1⟩
instance : ZeroT Tryd.prog 64 [.int .i64 0, .int .i64 0] := ⟨_, show still Tryd.prog (zeroValue 64) = some (.agg (List.toArray [.int .i64 0, .int .i64 0])) by kernel_rfl, .agg _⟩
instance : Ag Tryd.prog 65 9 := ⟨_, Tryd.underlying65, rfl, by kernel_rfl⟩
instance : FieldAt Tryd.prog 65 0 0 := ⟨_, _, 0, Tryd.underlying65, rfl, rfl, by kernel_rfl⟩
instance : FieldAt Tryd.prog 65 1 1 := ⟨_, _, 0, Tryd.underlying65, rfl, rfl, by kernel_rfl⟩
instance : FieldAt Tryd.prog 65 2 2 := ⟨_, _, 2, Tryd.underlying65, rfl, rfl, by kernel_rfl⟩
instance : FieldAt Tryd.prog 65 3 5 := ⟨_, _, 0, Tryd.underlying65, rfl, rfl, by kernel_rfl⟩
instance : FieldAt Tryd.prog 65 4 6 := ⟨_, _, 1, Tryd.underlying65, rfl, rfl, by kernel_rfl⟩
instance : FieldAt Tryd.prog 65 5 8 := ⟨_, _, 0, Tryd.underlying65, rfl, rfl, by kernel_rfl⟩
instance : OffsT Tryd.prog 65 [(0, 1), (1, 1), (2, 3), (5, 1), (6, 2), (8, 1)] [.int .i64 0, .int .i64 0, .int .i64 0, .int .i64 0, .int .i64 0, .bool false, .int .i64 0, .int .i64 0, .int .i64 0] := ⟨(([(0, 1), (1, 1), (2, 3), (5, 1), (6, 2), (8, 1)] : List (Nat × Nat)).toArray[·]?), fun _ => by kernel_rfl, fun i p h => by simpa using h⟩
instance : ZeroT Tryd.prog 65 [.int .i64 0, .int .i64 0, .int .i64 0, .int .i64 0, .int .i64 0, .bool false, .int .i64 0, .int .i64 0, .int .i64 0] := ⟨_, show still Tryd.prog (zeroValue 65) = some (.agg (List.toArray [.int .i64 0, .int .i64 0, .int .i64 0, .int .i64 0, .int .i64 0, .bool false, .int .i64 0, .int .i64 0, .int .i64 0])) by kernel_rfl, .agg _⟩
instance : Ag Tryd.prog 66 9 := ⟨_, Tryd.underlying66, rfl, by kernel_rfl⟩
instance : FieldAt Tryd.prog 66 0 0 := ⟨_, _, 0, Tryd.underlying66, rfl, rfl, by kernel_rfl⟩
instance : FieldAt Tryd.prog 66 1 1 := ⟨_, _, 0, Tryd.underlying66, rfl, rfl, by kernel_rfl⟩
instance : FieldAt Tryd.prog 66 2 2 := ⟨_, _, 2, Tryd.underlying66, rfl, rfl, by kernel_rfl⟩
instance : FieldAt Tryd.prog 66 3 5 := ⟨_, _, 0, Tryd.underlying66, rfl, rfl, by kernel_rfl⟩
instance : FieldAt Tryd.prog 66 4 6 := ⟨_, _, 1, Tryd.underlying66, rfl, rfl, by kernel_rfl⟩
instance : FieldAt Tryd.prog 66 5 8 := ⟨_, _, 0, Tryd.underlying66, rfl, rfl, by kernel_rfl⟩
instance : OffsT Tryd.prog 66 [(0, 1), (1, 1), (2, 3), (5, 1), (6, 2), (8, 1)] [.int .i64 0, .int .i64 0, .int .i64 0, .int .i64 0, .int .i64 0, .bool false, .int .i64 0, .int .i64 0, .int .i64 0] := ⟨(([(0, 1), (1, 1), (2, 3), (5, 1), (6, 2), (8, 1)] : List (Nat × Nat)).toArray[·]?), fun _ => by kernel_rfl, fun i p h => by simpa using h⟩
instance : ZeroT Tryd.prog 66 [.int .i64 0, .int .i64 0, .int .i64 0, .int .i64 0, .int .i64 0, .bool false, .int .i64 0, .int .i64 0, .int .i64 0] := ⟨_, show still Tryd.prog (zeroValue 66) = some (.agg (List.toArray [.int .i64 0, .int .i64 0, .int .i64 0, .int .i64 0, .int .i64 0, .bool false, .int .i64 0, .int .i64 0, .int .i64 0])) by kernel_rfl, .agg _⟩
instance : Sc Tryd.prog 67 := ⟨_, Tryd.underlying67, rfl, by kernel_rfl⟩
instance : ZeroT Tryd.prog 67 [.slice none 0 0] := ⟨.slice none 0 0, by kernel_rfl, .one rfl⟩
instance : SliceT Tryd.prog 67 167 1 24 := ⟨Tryd.underlying67, by decide, by decide, .agg #[.slice none 0 0], by kernel_rfl, by kernel_rfl⟩
instance : Ag Tryd.prog 68 33 := ⟨_, Tryd.underlying68, rfl, by kernel_rfl⟩
instance : FieldAt Tryd.prog 68 0 0 := ⟨_, _, 2, Tryd.underlying68, rfl, rfl, by kernel_rfl⟩
instance : FieldAt Tryd.prog 68 1 3 := ⟨_, _, 0, Tryd.underlying68, rfl, rfl, by kernel_rfl⟩
instance : FieldAt Tryd.prog 68 2 4 := ⟨_, _, 0, Tryd.underlying68, rfl, rfl, by kernel_rfl⟩
instance : FieldAt Tryd.prog 68 3 5 := ⟨_, _, 0, Tryd.underlying68, rfl, rfl, by kernel_rfl⟩
instance : FieldAt Tryd.prog 68 4 6 := ⟨_, _, 0, Tryd.underlying68, rfl, rfl, by kernel_rfl⟩
instance : FieldAt Tryd.prog 68 5 7 := ⟨_, _, 0, Tryd.underlying68, rfl, rfl, by kernel_rfl⟩
instance : FieldAt Tryd.prog 68 6 8 := ⟨_, _, 2, Tryd.underlying68, rfl, rfl, by kernel_rfl⟩
instance : FieldAt Tryd.prog 68 7 11 := ⟨_, _, 0, Tryd.underlying68, rfl, rfl, by kernel_rfl⟩
instance : FieldAt Tryd.prog 68 8 12 := ⟨_, _, 3, Tryd.underlying68, rfl, rfl, by kernel_rfl⟩
instance : FieldAt Tryd.prog 68 9 16 := ⟨_, _, 1, Tryd.underlying68, rfl, rfl, by kernel_rfl⟩
instance : FieldAt Tryd.prog 68 10 18 := ⟨_, _, 0, Tryd.underlying68, rfl, rfl, by kernel_rfl⟩
instance : FieldAt Tryd.prog 68 11 19 := ⟨_, _, 8, Tryd.underlying68, rfl, rfl, by kernel_rfl⟩
instance : FieldAt Tryd.prog 68 12 28 := ⟨_, _, 2, Tryd.underlying68, rfl, rfl, by kernel_rfl⟩
instance : FieldAt Tryd.prog 68 13 31 := ⟨_, _, 0, Tryd.underlying68, rfl, rfl, by kernel_rfl⟩
instance : FieldAt Tryd.prog 68 14 32 := ⟨_, _, 0, Tryd.underlying68, rfl, rfl, by kernel_rfl⟩
instance : OffsT Tryd.prog 68 [(0, 3), (3, 1), (4, 1), (5, 1), (6, 1), (7, 1), (8, 3), (11, 1), (12, 4), (16, 2), (18, 1), (19, 9), (28, 3), (31, 1), (32, 1)] [.int .i64 0, .int .i64 0, .slice none 0 0, .int .i64 0, .int .i64 0, .bool false, .int .i64 0, .int .i64 0, .int .i64 0, .int .i64 0, .int .i64 0, .int .i64 0, .int .u64 0, .int .u64 0, .int .u64 0, .int .u64 0, .int .i64 0, .int .i64 0, .int .i64 0, .int .i64 0, .int .i64 0, .int .i64 0, .int .i64 0, .int .i64 0, .bool false, .int .i64 0, .int .i64 0, .int .i64 0, .int .i64 0, .int .i64 0, .slice none 0 0, .string .empty, .slice none 0 0] := ⟨(([(0, 3), (3, 1), (4, 1), (5, 1), (6, 1), (7, 1), (8, 3), (11, 1), (12, 4), (16, 2), (18, 1), (19, 9), (28, 3), (31, 1), (32, 1)] : List (Nat × Nat)).toArray[·]?), fun _ => by kernel_rfl, fun i p h => by simpa using h⟩
instance : ZeroT Tryd.prog 68 [.int .i64 0, .int .i64 0, .slice none 0 0, .int .i64 0, .int .i64 0, .bool false, .int .i64 0, .int .i64 0, .int .i64 0, .int .i64 0, .int .i64 0, .int .i64 0, .int .u64 0, .int .u64 0, .int .u64 0, .int .u64 0, .int .i64 0, .int .i64 0, .int .i64 0, .int .i64 0, .int .i64 0, .int .i64 0, .int .i64 0, .int .i64 0, .bool false, .int .i64 0, .int .i64 0, .int .i64 0, .int .i64 0, .int .i64 0, .slice none 0 0, .string .empty, .slice none 0 0] := ⟨_, show still Tryd.prog (zeroValue 68) = some (.agg (List.toArray [.int .i64 0, .int .i64 0, .slice none 0 0, .int .i64 0, .int .i64 0, .bool false, .int .i64 0, .int .i64 0, .int .i64 0, .int .i64 0, .int .i64 0, .int .i64 0, .int .u64 0, .int .u64 0, .int .u64 0, .int .u64 0, .int .i64 0, .int .i64 0, .int .i64 0, .int .i64 0, .int .i64 0, .int .i64 0, .int .i64 0, .int .i64 0, .bool false, .int .i64 0, .int .i64 0, .int .i64 0, .int .i64 0, .int .i64 0, .slice none 0 0, .string .empty, .slice none 0 0])) by kernel_rfl, .agg _⟩
instance : Ag Tryd.prog 69 33 := ⟨_, Tryd.underlying69, rfl, by kernel_rfl⟩
instance : FieldAt Tryd.prog 69 0 0 := ⟨_, _, 2, Tryd.underlying69, rfl, rfl, by kernel_rfl⟩
instance : FieldAt Tryd.prog 69 1 3 := ⟨_, _, 0, Tryd.underlying69, rfl, rfl, by kernel_rfl⟩
instance : FieldAt Tryd.prog 69 2 4 := ⟨_, _, 0, Tryd.underlying69, rfl, rfl, by kernel_rfl⟩
instance : FieldAt Tryd.prog 69 3 5 := ⟨_, _, 0, Tryd.underlying69, rfl, rfl, by kernel_rfl⟩
instance : FieldAt Tryd.prog 69 4 6 := ⟨_, _, 0, Tryd.underlying69, rfl, rfl, by kernel_rfl⟩
instance : FieldAt Tryd.prog 69 5 7 := ⟨_, _, 0, Tryd.underlying69, rfl, rfl, by kernel_rfl⟩
instance : FieldAt Tryd.prog 69 6 8 := ⟨_, _, 2, Tryd.underlying69, rfl, rfl, by kernel_rfl⟩
instance : FieldAt Tryd.prog 69 7 11 := ⟨_, _, 0, Tryd.underlying69, rfl, rfl, by kernel_rfl⟩
instance : FieldAt Tryd.prog 69 8 12 := ⟨_, _, 3, Tryd.underlying69, rfl, rfl, by kernel_rfl⟩
instance : FieldAt Tryd.prog 69 9 16 := ⟨_, _, 1, Tryd.underlying69, rfl, rfl, by kernel_rfl⟩
instance : FieldAt Tryd.prog 69 10 18 := ⟨_, _, 0, Tryd.underlying69, rfl, rfl, by kernel_rfl⟩
instance : FieldAt Tryd.prog 69 11 19 := ⟨_, _, 8, Tryd.underlying69, rfl, rfl, by kernel_rfl⟩
instance : FieldAt Tryd.prog 69 12 28 := ⟨_, _, 2, Tryd.underlying69, rfl, rfl, by kernel_rfl⟩
instance : FieldAt Tryd.prog 69 13 31 := ⟨_, _, 0, Tryd.underlying69, rfl, rfl, by kernel_rfl⟩
instance : FieldAt Tryd.prog 69 14 32 := ⟨_, _, 0, Tryd.underlying69, rfl, rfl, by kernel_rfl⟩
instance : OffsT Tryd.prog 69 [(0, 3), (3, 1), (4, 1), (5, 1), (6, 1), (7, 1), (8, 3), (11, 1), (12, 4), (16, 2), (18, 1), (19, 9), (28, 3), (31, 1), (32, 1)] [.int .i64 0, .int .i64 0, .slice none 0 0, .int .i64 0, .int .i64 0, .bool false, .int .i64 0, .int .i64 0, .int .i64 0, .int .i64 0, .int .i64 0, .int .i64 0, .int .u64 0, .int .u64 0, .int .u64 0, .int .u64 0, .int .i64 0, .int .i64 0, .int .i64 0, .int .i64 0, .int .i64 0, .int .i64 0, .int .i64 0, .int .i64 0, .bool false, .int .i64 0, .int .i64 0, .int .i64 0, .int .i64 0, .int .i64 0, .slice none 0 0, .string .empty, .slice none 0 0] := ⟨(([(0, 3), (3, 1), (4, 1), (5, 1), (6, 1), (7, 1), (8, 3), (11, 1), (12, 4), (16, 2), (18, 1), (19, 9), (28, 3), (31, 1), (32, 1)] : List (Nat × Nat)).toArray[·]?), fun _ => by kernel_rfl, fun i p h => by simpa using h⟩
instance : ZeroT Tryd.prog 69 [.int .i64 0, .int .i64 0, .slice none 0 0, .int .i64 0, .int .i64 0, .bool false, .int .i64 0, .int .i64 0, .int .i64 0, .int .i64 0, .int .i64 0, .int .i64 0, .int .u64 0, .int .u64 0, .int .u64 0, .int .u64 0, .int .i64 0, .int .i64 0, .int .i64 0, .int .i64 0, .int .i64 0, .int .i64 0, .int .i64 0, .int .i64 0, .bool false, .int .i64 0, .int .i64 0, .int .i64 0, .int .i64 0, .int .i64 0, .slice none 0 0, .string .empty, .slice none 0 0] := ⟨_, show still Tryd.prog (zeroValue 69) = some (.agg (List.toArray [.int .i64 0, .int .i64 0, .slice none 0 0, .int .i64 0, .int .i64 0, .bool false, .int .i64 0, .int .i64 0, .int .i64 0, .int .i64 0, .int .i64 0, .int .i64 0, .int .u64 0, .int .u64 0, .int .u64 0, .int .u64 0, .int .i64 0, .int .i64 0, .int .i64 0, .int .i64 0, .int .i64 0, .int .i64 0, .int .i64 0, .int .i64 0, .bool false, .int .i64 0, .int .i64 0, .int .i64 0, .int .i64 0, .int .i64 0, .slice none 0 0, .string .empty, .slice none 0 0])) by kernel_rfl, .agg _⟩
instance : Ag Tryd.prog 70 256 := ⟨_, Tryd.underlying70, rfl, by kernel_rfl⟩
instance : ArrT Tryd.prog 70 256 5 1 := ⟨Tryd.underlying70, by kernel_rfl⟩
instance : Ag Tryd.prog 71 520 := ⟨_, Tryd.underlying71, rfl, by kernel_rfl⟩
instance : FieldAt Tryd.prog 71 0 0 := ⟨_, _, 255, Tryd.underlying71, rfl, rfl, by kernel_rfl⟩
instance : FieldAt Tryd.prog 71 1 256 := ⟨_, _, 255, Tryd.underlying71, rfl, rfl, by kernel_rfl⟩
instance : FieldAt Tryd.prog 71 2 512 := ⟨_, _, 3, Tryd.underlying71, rfl, rfl, by kernel_rfl⟩
instance : FieldAt Tryd.prog 71 3 516 := ⟨_, _, 3, Tryd.underlying71, rfl, rfl, by kernel_rfl⟩
instance : Ag Tryd.prog 72 520 := ⟨_, Tryd.underlying72, rfl, by kernel_rfl⟩
instance : FieldAt Tryd.prog 72 0 0 := ⟨_, _, 255, Tryd.underlying72, rfl, rfl, by kernel_rfl⟩
instance : FieldAt Tryd.prog 72 1 256 := ⟨_, _, 255, Tryd.underlying72, rfl, rfl, by kernel_rfl⟩
instance : FieldAt Tryd.prog 72 2 512 := ⟨_, _, 3, Tryd.underlying72, rfl, rfl, by kernel_rfl⟩
instance : FieldAt Tryd.prog 72 3 516 := ⟨_, _, 3, Tryd.underlying72, rfl, rfl, by kernel_rfl⟩
instance : Ag Tryd.prog 73 2 := ⟨_, Tryd.underlying73, rfl, by kernel_rfl⟩
instance : FieldAt Tryd.prog 73 0 0 := ⟨_, _, 0, Tryd.underlying73, rfl, rfl, by kernel_rfl⟩
instance : FieldAt Tryd.prog 73 1 1 := ⟨_, _, 0, Tryd.underlying73, rfl, rfl, by kernel_rfl⟩
instance : OffsT Tryd.prog 73 [(0, 1), (1, 1)] [.slice none 0 0, .int .i64 0] := ⟨(([(0, 1), (1, 1)] : List (Nat × Nat)).toArray[·]?), fun _ => by kernel_rfl, fun i p h => by simpa using h⟩
instance : ZeroT Tryd.prog 73 [.slice none 0 0, .int .i64 0] := ⟨_, show still Tryd.prog (zeroValue 73) = some (.agg (List.toArray [.slice none 0 0, .int .i64 0])) by kernel_rfl, .agg _⟩
instance : Ag Tryd.prog 74 2 := ⟨_, Tryd.underlying74, rfl, by kernel_rfl⟩
instance : FieldAt Tryd.prog 74 0 0 := ⟨_, _, 0, Tryd.underlying74, rfl, rfl, by kernel_rfl⟩
instance : FieldAt Tryd.prog 74 1 1 := ⟨_, _, 0, Tryd.underlying74, rfl, rfl, by kernel_rfl⟩
instance : OffsT Tryd.prog 74 [(0, 1), (1, 1)] [.slice none 0 0, .int .i64 0] := ⟨(([(0, 1), (1, 1)] : List (Nat × Nat)).toArray[·]?), fun _ => by kernel_rfl, fun i p h => by simpa using h⟩
instance : ZeroT Tryd.prog 74 [.slice none 0 0, .int .i64 0] := ⟨_, show still Tryd.prog (zeroValue 74) = some (.agg (List.toArray [.slice none 0 0, .int .i64 0])) by kernel_rfl, .agg _⟩
instance : Ag Tryd.prog 75 19 := ⟨_, Tryd.underlying75, rfl, by kernel_rfl⟩
instance : ArrT Tryd.prog 75 19 5 1 := ⟨Tryd.underlying75, by kernel_rfl⟩
instance : OffsT Tryd.prog 75 (arrOffs 19 1) [.int .u8 0, .int .u8 0, .int .u8 0, .int .u8 0, .int .u8 0, .int .u8 0, .int .u8 0, .int .u8 0, .int .u8 0, .int .u8 0, .int .u8 0, .int .u8 0, .int .u8 0, .int .u8 0, .int .u8 0, .int .u8 0, .int .u8 0, .int .u8 0, .int .u8 0] := ⟨fun i => some (i * 1, 1), fun _ => by kernel_rfl, arrOffs_at 19 1⟩
instance : ZeroT Tryd.prog 75 [.int .u8 0, .int .u8 0, .int .u8 0, .int .u8 0, .int .u8 0, .int .u8 0, .int .u8 0, .int .u8 0, .int .u8 0, .int .u8 0, .int .u8 0, .int .u8 0, .int .u8 0, .int .u8 0, .int .u8 0, .int .u8 0, .int .u8 0, .int .u8 0, .int .u8 0] := ⟨_, show still Tryd.prog (zeroValue 75) = some (.agg (List.toArray [.int .u8 0, .int .u8 0, .int .u8 0, .int .u8 0, .int .u8 0, .int .u8 0, .int .u8 0, .int .u8 0, .int .u8 0, .int .u8 0, .int .u8 0, .int .u8 0, .int .u8 0, .int .u8 0, .int .u8 0, .int .u8 0, .int .u8 0, .int .u8 0, .int .u8 0])) by kernel_rfl, .agg _⟩
instance : Ag Tryd.prog 76 38 := ⟨_, Tryd.underlying76, rfl, by kernel_rfl⟩
instance : FieldAt Tryd.prog 76 0 0 := ⟨_, _, 18, Tryd.underlying76, rfl, rfl, by kernel_rfl⟩
instance : FieldAt Tryd.prog 76 1 19 := ⟨_, _, 18, Tryd.underlying76, rfl, rfl, by kernel_rfl⟩
instance : OffsT Tryd.prog 76 [(0, 19), (19, 19)] [.int .u8 0, .int .u8 0, .int .u8 0, .int .u8 0, .int .u8 0, .int .u8 0, .int .u8 0, .int .u8 0, .int .u8 0, .int .u8 0, .int .u8 0, .int .u8 0, .int .u8 0, .int .u8 0, .int .u8 0, .int .u8 0, .int .u8 0, .int .u8 0, .int .u8 0, .int .u8 0, .int .u8 0, .int .u8 0, .int .u8 0, .int .u8 0, .int .u8 0, .int .u8 0, .int .u8 0, .int .u8 0, .int .u8 0, .int .u8 0, .int .u8 0, .int .u8 0, .int .u8 0, .int .u8 0, .int .u8 0, .int .u8 0, .int .u8 0, .int .u8 0] := ⟨(([(0, 19), (19, 19)] : List (Nat × Nat)).toArray[·]?), fun _ => by kernel_rfl, fun i p h => by simpa using h⟩
instance : ZeroT Tryd.prog 76 [.int .u8 0, .int .u8 0, .int .u8 0, .int .u8 0, .int .u8 0, .int .u8 0, .int .u8 0, .int .u8 0, .int .u8 0, .int .u8 0, .int .u8 0, .int .u8 0, .int .u8 0, .int .u8 0, .int .u8 0, .int .u8 0, .int .u8 0, .int .u8 0, .int .u8 0, .int .u8 0, .int .u8 0, .int .u8 0, .int .u8 0, .int .u8 0, .int .u8 0, .int .u8 0, .int .u8 0, .int .u8 0, .int .u8 0, .int .u8 0, .int .u8 0, .int .u8 0, .int .u8 0, .int .u8 0, .int .u8 0, .int .u8 0, .int .u8 0, .int .u8 0] := ⟨_, show still Tryd.prog (zeroValue 76) = some (.agg (List.toArray [.int .u8 0, .int .u8 0, .int .u8 0, .int .u8 0, .int .u8 0, .int .u8 0, .int .u8 0, .int .u8 0, .int .u8 0, .int .u8 0, .int .u8 0, .int .u8 0, .int .u8 0, .int .u8 0, .int .u8 0, .int .u8 0, .int .u8 0, .int .u8 0, .int .u8 0, .int .u8 0, .int .u8 0, .int .u8 0, .int .u8 0, .int .u8 0, .int .u8 0, .int .u8 0, .int .u8 0, .int .u8 0, .int .u8 0, .int .u8 0, .int .u8 0, .int .u8 0, .int .u8 0, .int .u8 0, .int .u8 0, .int .u8 0, .int .u8 0, .int .u8 0])) by kernel_rfl, .agg _⟩
instance : Ag Tryd.prog 77 38 := ⟨_, Tryd.underlying77, rfl, by kernel_rfl⟩
instance : FieldAt Tryd.prog 77 0 0 := ⟨_, _, 18, Tryd.underlying77, rfl, rfl, by kernel_rfl⟩
instance : FieldAt Tryd.prog 77 1 19 := ⟨_, _, 18, Tryd.underlying77, rfl, rfl, by kernel_rfl⟩
instance : OffsT Tryd.prog 77 [(0, 19), (19, 19)] [.int .u8 0, .int .u8 0, .int .u8 0, .int .u8 0, .int .u8 0, .int .u8 0, .int .u8 0, .int .u8 0, .int .u8 0, .int .u8 0, .int .u8 0, .int .u8 0, .int .u8 0, .int .u8 0, .int .u8 0, .int .u8 0, .int .u8 0, .int .u8 0, .int .u8 0, .int .u8 0, .int .u8 0, .int .u8 0, .int .u8 0, .int .u8 0, .int .u8 0, .int .u8 0, .int .u8 0, .int .u8 0, .int .u8 0, .int .u8 0, .int .u8 0, .int .u8 0, .int .u8 0, .int .u8 0, .int .u8 0, .int .u8 0, .int .u8 0, .int .u8 0] := ⟨(([(0, 19), (19, 19)] : List (Nat × Nat)).toArray[·]?), fun _ => by kernel_rfl, fun i p h => by simpa using h⟩
instance : ZeroT Tryd.prog 77 [.int .u8 0, .int .u8 0, .int .u8 0, .int .u8 0, .int .u8 0, .int .u8 0, .int .u8 0, .int .u8 0, .int .u8 0, .int .u8 0, .int .u8 0, .int .u8 0, .int .u8 0, .int .u8 0, .int .u8 0, .int .u8 0, .int .u8 0, .int .u8 0, .int .u8 0, .int .u8 0, .int .u8 0, .int .u8 0, .int .u8 0, .int .u8 0, .int .u8 0, .int .u8 0, .int .u8 0, .int .u8 0, .int .u8 0, .int .u8 0, .int .u8 0, .int .u8 0, .int .u8 0, .int .u8 0, .int .u8 0, .int .u8 0, .int .u8 0, .int .u8 0] := ⟨_, show still Tryd.prog (zeroValue 77) = some (.agg (List.toArray [.int .u8 0, .int .u8 0, .int .u8 0, .int .u8 0, .int .u8 0, .int .u8 0, .int .u8 0, .int .u8 0, .int .u8 0, .int .u8 0, .int .u8 0, .int .u8 0, .int .u8 0, .int .u8 0, .int .u8 0, .int .u8 0, .int .u8 0, .int .u8 0, .int .u8 0, .int .u8 0, .int .u8 0, .int .u8 0, .int .u8 0, .int .u8 0, .int .u8 0, .int .u8 0, .int .u8 0, .int .u8 0, .int .u8 0, .int .u8 0, .int .u8 0, .int .u8 0, .int .u8 0, .int .u8 0, .int .u8 0, .int .u8 0, .int .u8 0, .int .u8 0])) by kernel_rfl, .agg _⟩
instance : Ag Tryd.prog 78 4 := ⟨_, Tryd.underlying78, rfl, by kernel_rfl⟩
instance : FieldAt Tryd.prog 78 0 0 := ⟨_, _, 3, Tryd.underlying78, rfl, rfl, by kernel_rfl⟩
instance : OffsT Tryd.prog 78 [(0, 4)] [.int .u64 0, .int .u64 0, .int .u64 0, .int .u64 0] := ⟨(([(0, 4)] : List (Nat × Nat)).toArray[·]?), fun _ => by kernel_rfl, fun i p h => by simpa using h⟩
instance : ZeroT Tryd.prog 78 [.int .u64 0, .int .u64 0, .int .u64 0, .int .u64 0] := ⟨_, show still Tryd.prog (zeroValue 78) = some (.agg (List.toArray [.int .u64 0, .int .u64 0, .int .u64 0, .int .u64 0])) by kernel_rfl, .agg _⟩
instance : Ag Tryd.prog 79 2 := ⟨_, Tryd.underlying79, rfl, by kernel_rfl⟩
instance : FieldAt Tryd.prog 79 0 0 := ⟨_, _, 0, Tryd.underlying79, rfl, rfl, by kernel_rfl⟩
instance : FieldAt Tryd.prog 79 1 1 := ⟨_, _, 0, Tryd.underlying79, rfl, rfl, by kernel_rfl⟩
instance : OffsT Tryd.prog 79 [(0, 1), (1, 1)] [.string .empty, .bool false] := ⟨(([(0, 1), (1, 1)] : List (Nat × Nat)).toArray[·]?), fun _ => by kernel_rfl, fun i p h => by simpa using h⟩
instance : ZeroT Tryd.prog 79 [.string .empty, .bool false] := ⟨_, show still Tryd.prog (zeroValue 79) = some (.agg (List.toArray [.string .empty, .bool false])) by kernel_rfl, .agg _⟩
instance : Ag Tryd.prog 80 2 := ⟨_, Tryd.underlying80, rfl, by kernel_rfl⟩
instance : FieldAt Tryd.prog 80 0 0 := ⟨_, _, 0, Tryd.underlying80, rfl, rfl, by kernel_rfl⟩
instance : FieldAt Tryd.prog 80 1 1 := ⟨_, _, 0, Tryd.underlying80, rfl, rfl, by kernel_rfl⟩
instance : OffsT Tryd.prog 80 [(0, 1), (1, 1)] [.string .empty, .bool false] := ⟨(([(0, 1), (1, 1)] : List (Nat × Nat)).toArray[·]?), fun _ => by kernel_rfl, fun i p h => by simpa using h⟩
instance : ZeroT Tryd.prog 80 [.string .empty, .bool false] := ⟨_, show still Tryd.prog (zeroValue 80) = some (.agg (List.toArray [.string .empty, .bool false])) by kernel_rfl, .agg _⟩
instance : Ag Tryd.prog 81 613 := ⟨_, Tryd.underlying81, rfl, by kernel_rfl⟩
instance : FieldAt Tryd.prog 81 0 0 := ⟨_, _, 4, Tryd.underlying81, rfl, rfl, by kernel_rfl⟩
instance : FieldAt Tryd.prog 81 1 5 := ⟨_, _, 0, Tryd.underlying81, rfl, rfl, by kernel_rfl⟩
instance : FieldAt Tryd.prog 81 2 6 := ⟨_, _, 0, Tryd.underlying81, rfl, rfl, by kernel_rfl⟩
instance : FieldAt Tryd.prog 81 3 7 := ⟨_, _, 4, Tryd.underlying81, rfl, rfl, by kernel_rfl⟩
instance : FieldAt Tryd.prog 81 4 12 := ⟨_, _, 32, Tryd.underlying81, rfl, rfl, by kernel_rfl⟩
instance : FieldAt Tryd.prog 81 5 45 := ⟨_, _, 519, Tryd.underlying81, rfl, rfl, by kernel_rfl⟩
instance : FieldAt Tryd.prog 81 6 565 := ⟨_, _, 1, Tryd.underlying81, rfl, rfl, by kernel_rfl⟩
instance : FieldAt Tryd.prog 81 7 567 := ⟨_, _, 0, Tryd.underlying81, rfl, rfl, by kernel_rfl⟩
instance : FieldAt Tryd.prog 81 8 568 := ⟨_, _, 37, Tryd.underlying81, rfl, rfl, by kernel_rfl⟩
instance : FieldAt Tryd.prog 81 9 606 := ⟨_, _, 3, Tryd.underlying81, rfl, rfl, by kernel_rfl⟩
instance : FieldAt Tryd.prog 81 10 610 := ⟨_, _, 1, Tryd.underlying81, rfl, rfl, by kernel_rfl⟩
instance : FieldAt Tryd.prog 81 11 612 := ⟨_, _, 0, Tryd.underlying81, rfl, rfl, by kernel_rfl⟩
instance : Ag Tryd.prog 82 613 := ⟨_, Tryd.underlying82, rfl, by kernel_rfl⟩
instance : FieldAt Tryd.prog 82 0 0 := ⟨_, _, 4, Tryd.underlying82, rfl, rfl, by kernel_rfl⟩
instance : FieldAt Tryd.prog 82 1 5 := ⟨_, _, 0, Tryd.underlying82, rfl, rfl, by kernel_rfl⟩
instance : FieldAt Tryd.prog 82 2 6 := ⟨_, _, 0, Tryd.underlying82, rfl, rfl, by kernel_rfl⟩
instance : FieldAt Tryd.prog 82 3 7 := ⟨_, _, 4, Tryd.underlying82, rfl, rfl, by kernel_rfl⟩
instance : FieldAt Tryd.prog 82 4 12 := ⟨_, _, 32, Tryd.underlying82, rfl, rfl, by kernel_rfl⟩
instance : FieldAt Tryd.prog 82 5 45 := ⟨_, _, 519, Tryd.underlying82, rfl, rfl, by kernel_rfl⟩
instance : FieldAt Tryd.prog 82 6 565 := ⟨_, _, 1, Tryd.underlying82, rfl, rfl, by kernel_rfl⟩
instance : FieldAt Tryd.prog 82 7 567 := ⟨_, _, 0, Tryd.underlying82, rfl, rfl, by kernel_rfl⟩
instance : FieldAt Tryd.prog 82 8 568 := ⟨_, _, 37, Tryd.underlying82, rfl, rfl, by kernel_rfl⟩
instance : FieldAt Tryd.prog 82 9 606 := ⟨_, _, 3, Tryd.underlying82, rfl, rfl, by kernel_rfl⟩
instance : FieldAt Tryd.prog 82 10 610 := ⟨_, _, 1, Tryd.underlying82, rfl, rfl, by kernel_rfl⟩
instance : FieldAt Tryd.prog 82 11 612 := ⟨_, _, 0, Tryd.underlying82, rfl, rfl, by kernel_rfl⟩
instance : Sc Tryd.prog 84 := ⟨_, Tryd.underlying84, rfl, by kernel_rfl⟩
instance : ZeroT Tryd.prog 84 [.nilFunc] := ⟨.nilFunc, by kernel_rfl, .one rfl⟩
instance : Sc Tryd.prog 85 := ⟨_, Tryd.underlying85, rfl, by kernel_rfl⟩
instance : ZeroT Tryd.prog 85 [.nilFunc] := ⟨.nilFunc, by kernel_rfl, .one rfl⟩
instance : Sc Tryd.prog 86 := ⟨_, Tryd.underlying86, rfl, by kernel_rfl⟩
instance : ZeroT Tryd.prog 86 [.nilFunc] := ⟨.nilFunc, by kernel_rfl, .one rfl⟩
instance : Sc Tryd.prog 87 := ⟨_, Tryd.underlying87, rfl, by kernel_rfl⟩
instance : ZeroT Tryd.prog 87 [.pointer none] := ⟨.pointer none, by kernel_rfl, .one rfl⟩
instance : Ag Tryd.prog 88 6 := ⟨_, Tryd.underlying88, rfl, by kernel_rfl⟩
instance : FieldAt Tryd.prog 88 0 0 := ⟨_, _, 4, Tryd.underlying88, rfl, rfl, by kernel_rfl⟩
instance : FieldAt Tryd.prog 88 1 5 := ⟨_, _, 0, Tryd.underlying88, rfl, rfl, by kernel_rfl⟩
instance : OffsT Tryd.prog 88 [(0, 5), (5, 1)] [.int .i64 0, .int .i64 0, .string .empty, .string .empty, .string .empty, .slice none 0 0] := ⟨(([(0, 5), (5, 1)] : List (Nat × Nat)).toArray[·]?), fun _ => by kernel_rfl, fun i p h => by simpa using h⟩
instance : ZeroT Tryd.prog 88 [.int .i64 0, .int .i64 0, .string .empty, .string .empty, .string .empty, .slice none 0 0] := ⟨_, show still Tryd.prog (zeroValue 88) = some (.agg (List.toArray [.int .i64 0, .int .i64 0, .string .empty, .string .empty, .string .empty, .slice none 0 0])) by kernel_rfl, .agg _⟩
instance : Ag Tryd.prog 89 6 := ⟨_, Tryd.underlying89, rfl, by kernel_rfl⟩
instance : FieldAt Tryd.prog 89 0 0 := ⟨_, _, 4, Tryd.underlying89, rfl, rfl, by kernel_rfl⟩
instance : FieldAt Tryd.prog 89 1 5 := ⟨_, _, 0, Tryd.underlying89, rfl, rfl, by kernel_rfl⟩
instance : OffsT Tryd.prog 89 [(0, 5), (5, 1)] [.int .i64 0, .int .i64 0, .string .empty, .string .empty, .string .empty, .slice none 0 0] := ⟨(([(0, 5), (5, 1)] : List (Nat × Nat)).toArray[·]?), fun _ => by kernel_rfl, fun i p h => by simpa using h⟩
instance : ZeroT Tryd.prog 89 [.int .i64 0, .int .i64 0, .string .empty, .string .empty, .string .empty, .slice none 0 0] := ⟨_, show still Tryd.prog (zeroValue 89) = some (.agg (List.toArray [.int .i64 0, .int .i64 0, .string .empty, .string .empty, .string .empty, .slice none 0 0])) by kernel_rfl, .agg _⟩
instance : Sc Tryd.prog 90 := ⟨_, Tryd.underlying90, rfl, by kernel_rfl⟩
instance : ZeroT Tryd.prog 90 [.nilFunc] := ⟨.nilFunc, by kernel_rfl, .one rfl⟩
instance : Sc Tryd.prog 91 := ⟨_, Tryd.underlying91, rfl, by kernel_rfl⟩
instance : ZeroT Tryd.prog 91 [.nilFunc] := ⟨.nilFunc, by kernel_rfl, .one rfl⟩
instance : Sc Tryd.prog 92 := ⟨_, Tryd.underlying92, rfl, by kernel_rfl⟩
instance : ZeroT Tryd.prog 92 [.slice none 0 0] := ⟨.slice none 0 0, by kernel_rfl, .one rfl⟩
instance : SliceT Tryd.prog 92 5 1 1 := ⟨Tryd.underlying92, by decide, by decide, .int .u8 0, by kernel_rfl, by kernel_rfl⟩
instance : Sc Tryd.prog 93 := ⟨_, Tryd.underlying93, rfl, by kernel_rfl⟩
instance : ZeroT Tryd.prog 93 [.nilFunc] := ⟨.nilFunc, by kernel_rfl, .one rfl⟩
instance : Sc Tryd.prog 94 := ⟨_, Tryd.underlying94, rfl, by kernel_rfl⟩
instance : ZeroT Tryd.prog 94 [.nilFunc] := ⟨.nilFunc, by kernel_rfl, .one rfl⟩
instance : Sc Tryd.prog 95 := ⟨_, Tryd.underlying95, rfl, by kernel_rfl⟩
instance : ZeroT Tryd.prog 95 [.nilFunc] := ⟨.nilFunc, by kernel_rfl, .one rfl⟩
instance : Sc Tryd.prog 96 := ⟨_, Tryd.underlying96, rfl, by kernel_rfl⟩
instance : ZeroT Tryd.prog 96 [.nilFunc] := ⟨.nilFunc, by kernel_rfl, .one rfl⟩
instance : Sc Tryd.prog 97 := ⟨_, Tryd.underlying97, rfl, by kernel_rfl⟩
instance : ZeroT Tryd.prog 97 [.nilFunc] := ⟨.nilFunc, by kernel_rfl, .one rfl⟩
instance : Sc Tryd.prog 98 := ⟨_, Tryd.underlying98, rfl, by kernel_rfl⟩
instance : ZeroT Tryd.prog 98 [.nilFunc] := ⟨.nilFunc, by kernel_rfl, .one rfl⟩
instance : Sc Tryd.prog 99 := ⟨_, Tryd.underlying99, rfl, by kernel_rfl⟩
instance : ZeroT Tryd.prog 99 [.nilFunc] := ⟨.nilFunc, by kernel_rfl, .one rfl⟩
instance : Sc Tryd.prog 100 := ⟨_, Tryd.underlying100, rfl, by kernel_rfl⟩
instance : ZeroT Tryd.prog 100 [.nilFunc] := ⟨.nilFunc, by kernel_rfl, .one rfl⟩
instance : Sc Tryd.prog 101 := ⟨_, Tryd.underlying101, rfl, by kernel_rfl⟩
instance : ZeroT Tryd.prog 101 [.nilFunc] := ⟨.nilFunc, by kernel_rfl, .one rfl⟩
instance : Sc Tryd.prog 102 := ⟨_, Tryd.underlying102, rfl, by kernel_rfl⟩
instance : ZeroT Tryd.prog 102 [.nilFunc] := ⟨.nilFunc, by kernel_rfl, .one rfl⟩
instance : Sc Tryd.prog 104 := ⟨_, Tryd.underlying104, rfl, by kernel_rfl⟩
instance : ZeroT Tryd.prog 104 [.nilFunc] := ⟨.nilFunc, by kernel_rfl, .one rfl⟩
instance : Sc Tryd.prog 105 := ⟨_, Tryd.underlying105, rfl, by kernel_rfl⟩
instance : ZeroT Tryd.prog 105 [.nilFunc] := ⟨.nilFunc, by kernel_rfl, .one rfl⟩
instance : Sc Tryd.prog 106 := ⟨_, Tryd.underlying106, rfl, by kernel_rfl⟩
instance : ZeroT Tryd.prog 106 [.nilFunc] := ⟨.nilFunc, by kernel_rfl, .one rfl⟩
instance : Sc Tryd.prog 107 := ⟨_, Tryd.underlying107, rfl, by kernel_rfl⟩
instance : ZeroT Tryd.prog 107 [.nilFunc] := ⟨.nilFunc, by kernel_rfl, .one rfl⟩
instance : Sc Tryd.prog 108 := ⟨_, Tryd.underlying108, rfl, by kernel_rfl⟩
instance : ZeroT Tryd.prog 108 [.nilFunc] := ⟨.nilFunc, by kernel_rfl, .one rfl⟩
instance : Sc Tryd.prog 109 := ⟨_, Tryd.underlying109, rfl, by kernel_rfl⟩
instance : ZeroT Tryd.prog 109 [.nilFunc] := ⟨.nilFunc, by kernel_rfl, .one rfl⟩
instance : Sc Tryd.prog 110 := ⟨_, Tryd.underlying110, rfl, by kernel_rfl⟩
instance : ZeroT Tryd.prog 110 [.nilFunc] := ⟨.nilFunc, by kernel_rfl, .one rfl⟩
instance : Ag Tryd.prog 111 3 := ⟨_, Tryd.underlying111, rfl, by kernel_rfl⟩
instance : ArrT Tryd.prog 111 3 3 1 := ⟨Tryd.underlying111, by kernel_rfl⟩
instance : OffsT Tryd.prog 111 (arrOffs 3 1) [.int .i64 0, .int .i64 0, .int .i64 0] := ⟨fun i => some (i * 1, 1), fun _ => by kernel_rfl, arrOffs_at 3 1⟩
instance : ZeroT Tryd.prog 111 [.int .i64 0, .int .i64 0, .int .i64 0] := ⟨_, show still Tryd.prog (zeroValue 111) = some (.agg (List.toArray [.int .i64 0, .int .i64 0, .int .i64 0])) by kernel_rfl, .agg _⟩
instance : Sc Tryd.prog 112 := ⟨_, Tryd.underlying112, rfl, by kernel_rfl⟩
instance : ZeroT Tryd.prog 112 [.nilIface] := ⟨.nilIface, by kernel_rfl, .one rfl⟩
instance : Sc Tryd.prog 113 := ⟨_, Tryd.underlying113, rfl, by kernel_rfl⟩
instance : ZeroT Tryd.prog 113 [.nilIface] := ⟨.nilIface, by kernel_rfl, .one rfl⟩
instance : Sc Tryd.prog 115 := ⟨_, Tryd.underlying115, rfl, by kernel_rfl⟩
instance : ZeroT Tryd.prog 115 [.nilFunc] := ⟨.nilFunc, by kernel_rfl, .one rfl⟩
instance : Sc Tryd.prog 116 := ⟨_, Tryd.underlying116, rfl, by kernel_rfl⟩
instance : ZeroT Tryd.prog 116 [.int .u64 0] := ⟨.int .u64 0, by kernel_rfl, .one rfl⟩
instance : IntT Tryd.prog 116 .u64 := ⟨Tryd.underlying116⟩
instance : Sc Tryd.prog 117 := ⟨_, Tryd.underlying117, rfl, by kernel_rfl⟩
instance : ZeroT Tryd.prog 117 [.nilFunc] := ⟨.nilFunc, by kernel_rfl, .one rfl⟩
instance : Sc Tryd.prog 119 := ⟨_, Tryd.underlying119, rfl, by kernel_rfl⟩
instance : ZeroT Tryd.prog 119 [.nilFunc] := ⟨.nilFunc, by kernel_rfl, .one rfl⟩
instance : Ag Tryd.prog 120 4 := ⟨_, Tryd.underlying120, rfl, by kernel_rfl⟩
instance : FieldAt Tryd.prog 120 0 0 := ⟨_, _, 0, Tryd.underlying120, rfl, rfl, by kernel_rfl⟩
instance : FieldAt Tryd.prog 120 1 1 := ⟨_, _, 0, Tryd.underlying120, rfl, rfl, by kernel_rfl⟩
instance : FieldAt Tryd.prog 120 2 2 := ⟨_, _, 0, Tryd.underlying120, rfl, rfl, by kernel_rfl⟩
instance : FieldAt Tryd.prog 120 3 3 := ⟨_, _, 0, Tryd.underlying120, rfl, rfl, by kernel_rfl⟩
instance : OffsT Tryd.prog 120 [(0, 1), (1, 1), (2, 1), (3, 1)] [.string .empty, .string .empty, .bool false, .bool false] := ⟨(([(0, 1), (1, 1), (2, 1), (3, 1)] : List (Nat × Nat)).toArray[·]?), fun _ => by kernel_rfl, fun i p h => by simpa using h⟩
instance : ZeroT Tryd.prog 120 [.string .empty, .string .empty, .bool false, .bool false] := ⟨_, show still Tryd.prog (zeroValue 120) = some (.agg (List.toArray [.string .empty, .string .empty, .bool false, .bool false])) by kernel_rfl, .agg _⟩
instance : Ag Tryd.prog 121 4 := ⟨_, Tryd.underlying121, rfl, by kernel_rfl⟩
instance : FieldAt Tryd.prog 121 0 0 := ⟨_, _, 0, Tryd.underlying121, rfl, rfl, by kernel_rfl⟩
instance : FieldAt Tryd.prog 121 1 1 := ⟨_, _, 0, Tryd.underlying121, rfl, rfl, by kernel_rfl⟩
instance : FieldAt Tryd.prog 121 2 2 := ⟨_, _, 0, Tryd.underlying121, rfl, rfl, by kernel_rfl⟩
instance : FieldAt Tryd.prog 121 3 3 := ⟨_, _, 0, Tryd.underlying121, rfl, rfl, by kernel_rfl⟩
instance : OffsT Tryd.prog 121 [(0, 1), (1, 1), (2, 1), (3, 1)] [.string .empty, .string .empty, .bool false, .bool false] := ⟨(([(0, 1), (1, 1), (2, 1), (3, 1)] : List (Nat × Nat)).toArray[·]?), fun _ => by kernel_rfl, fun i p h => by simpa using h⟩
instance : ZeroT Tryd.prog 121 [.string .empty, .string .empty, .bool false, .bool false] := ⟨_, show still Tryd.prog (zeroValue 121) = some (.agg (List.toArray [.string .empty, .string .empty, .bool false, .bool false])) by kernel_rfl, .agg _⟩
instance : Sc Tryd.prog 122 := ⟨_, Tryd.underlying122, rfl, by kernel_rfl⟩
instance : ZeroT Tryd.prog 122 [.nilFunc] := ⟨.nilFunc, by kernel_rfl, .one rfl⟩
instance : Sc Tryd.prog 123 := ⟨_, Tryd.underlying123, rfl, by kernel_rfl⟩
instance : ZeroT Tryd.prog 123 [.nilFunc] := ⟨.nilFunc, by kernel_rfl, .one rfl⟩
instance : Sc Tryd.prog 124 := ⟨_, Tryd.underlying124, rfl, by kernel_rfl⟩
instance : ZeroT Tryd.prog 124 [.nilFunc] := ⟨.nilFunc, by kernel_rfl, .one rfl⟩
instance : Sc Tryd.prog 125 := ⟨_, Tryd.underlying125, rfl, by kernel_rfl⟩
instance : ZeroT Tryd.prog 125 [.nilFunc] := ⟨.nilFunc, by kernel_rfl, .one rfl⟩
instance : Sc Tryd.prog 127 := ⟨_, Tryd.underlying127, rfl, by kernel_rfl⟩
instance : ZeroT Tryd.prog 127 [.nilFunc] := ⟨.nilFunc, by kernel_rfl, .one rfl⟩
instance : Sc Tryd.prog 128 := ⟨_, Tryd.underlying128, rfl, by kernel_rfl⟩
instance : ZeroT Tryd.prog 128 [.nilFunc] := ⟨.nilFunc, by kernel_rfl, .one rfl⟩
instance : Sc Tryd.prog 129 := ⟨_, Tryd.underlying129, rfl, by kernel_rfl⟩
instance : ZeroT Tryd.prog 129 [.nilFunc] := ⟨.nilFunc, by kernel_rfl, .one rfl⟩
instance : Sc Tryd.prog 130 := ⟨_, Tryd.underlying130, rfl, by kernel_rfl⟩
instance : ZeroT Tryd.prog 130 [.nilFunc] := ⟨.nilFunc, by kernel_rfl, .one rfl⟩
instance : Sc Tryd.prog 131 := ⟨_, Tryd.underlying131, rfl, by kernel_rfl⟩
instance : ZeroT Tryd.prog 131 [.map none] := ⟨.map none, by kernel_rfl, .one rfl⟩
instance : Sc Tryd.prog 132 := ⟨_, Tryd.underlying132, rfl, by kernel_rfl⟩
instance : ZeroT Tryd.prog 132 [.nilFunc] := ⟨.nilFunc, by kernel_rfl, .one rfl⟩
instance : Sc Tryd.prog 133 := ⟨_, Tryd.underlying133, rfl, by kernel_rfl⟩
instance : ZeroT Tryd.prog 133 [.nilFunc] := ⟨.nilFunc, by kernel_rfl, .one rfl⟩
instance : Sc Tryd.prog 134 := ⟨_, Tryd.underlying134, rfl, by kernel_rfl⟩
instance : ZeroT Tryd.prog 134 [.nilFunc] := ⟨.nilFunc, by kernel_rfl, .one rfl⟩
instance : Sc Tryd.prog 135 := ⟨_, Tryd.underlying135, rfl, by kernel_rfl⟩
instance : ZeroT Tryd.prog 135 [.nilFunc] := ⟨.nilFunc, by kernel_rfl, .one rfl⟩
instance : Sc Tryd.prog 136 := ⟨_, Tryd.underlying136, rfl, by kernel_rfl⟩
instance : ZeroT Tryd.prog 136 [.nilFunc] := ⟨.nilFunc, by kernel_rfl, .one rfl⟩
instance : Sc Tryd.prog 137 := ⟨_, Tryd.underlying137, rfl, by kernel_rfl⟩
instance : ZeroT Tryd.prog 137 [.nilFunc] := ⟨.nilFunc, by kernel_rfl, .one rfl⟩
instance : Sc Tryd.prog 138 := ⟨_, Tryd.underlying138, rfl, by kernel_rfl⟩
instance : ZeroT Tryd.prog 138 [.nilFunc] := ⟨.nilFunc, by kernel_rfl, .one rfl⟩
instance : Sc Tryd.prog 139 := ⟨_, Tryd.underlying139, rfl, by kernel_rfl⟩
instance : ZeroT Tryd.prog 139 [.nilFunc] := ⟨.nilFunc, by kernel_rfl, .one rfl⟩
instance : Sc Tryd.prog 141 := ⟨_, Tryd.underlying141, rfl, by kernel_rfl⟩
instance : ZeroT Tryd.prog 141 [.nilFunc] := ⟨.nilFunc, by kernel_rfl, .one rfl⟩
instance : Sc Tryd.prog 142 := ⟨_, Tryd.underlying142, rfl, by kernel_rfl⟩
instance : ZeroT Tryd.prog 142 [.nilFunc] := ⟨.nilFunc, by kernel_rfl, .one rfl⟩
instance : Sc Tryd.prog 143 := ⟨_, Tryd.underlying143, rfl, by kernel_rfl⟩
instance : ZeroT Tryd.prog 143 [.nilFunc] := ⟨.nilFunc, by kernel_rfl, .one rfl⟩
instance : Sc Tryd.prog 144 := ⟨_, Tryd.underlying144, rfl, by kernel_rfl⟩
instance : ZeroT Tryd.prog 144 [.nilFunc] := ⟨.nilFunc, by kernel_rfl, .one rfl⟩
instance : Ag Tryd.prog 145 256 := ⟨_, Tryd.underlying145, rfl, by kernel_rfl⟩
instance : ArrT Tryd.prog 145 256 4 1 := ⟨Tryd.underlying145, by kernel_rfl⟩
instance : Ag Tryd.prog 146 256 := ⟨_, Tryd.underlying146, rfl, by kernel_rfl⟩
instance : ArrT Tryd.prog 146 256 4 1 := ⟨Tryd.underlying146, by kernel_rfl⟩
instance : Sc Tryd.prog 148 := ⟨_, Tryd.underlying148, rfl, by kernel_rfl⟩
instance : ZeroT Tryd.prog 148 [.nilFunc] := ⟨.nilFunc, by kernel_rfl, .one rfl⟩
instance : Sc Tryd.prog 149 := ⟨_, Tryd.underlying149, rfl, by kernel_rfl⟩
instance : ZeroT Tryd.prog 149 [.nilFunc] := ⟨.nilFunc, by kernel_rfl, .one rfl⟩
instance : Sc Tryd.prog 150 := ⟨_, Tryd.underlying150, rfl, by kernel_rfl⟩
instance : ZeroT Tryd.prog 150 [.pointer none] := ⟨.pointer none, by kernel_rfl, .one rfl⟩
instance : Sc Tryd.prog 151 := ⟨_, Tryd.underlying151, rfl, by kernel_rfl⟩
instance : ZeroT Tryd.prog 151 [.nilFunc] := ⟨.nilFunc, by kernel_rfl, .one rfl⟩
instance : Sc Tryd.prog 152 := ⟨_, Tryd.underlying152, rfl, by kernel_rfl⟩
instance : ZeroT Tryd.prog 152 [.nilFunc] := ⟨.nilFunc, by kernel_rfl, .one rfl⟩
instance : Sc Tryd.prog 153 := ⟨_, Tryd.underlying153, rfl, by kernel_rfl⟩
instance : ZeroT Tryd.prog 153 [.nilFunc] := ⟨.nilFunc, by kernel_rfl, .one rfl⟩
instance : Sc Tryd.prog 154 := ⟨_, Tryd.underlying154, rfl, by kernel_rfl⟩
instance : ZeroT Tryd.prog 154 [.nilFunc] := ⟨.nilFunc, by kernel_rfl, .one rfl⟩
instance : Sc Tryd.prog 155 := ⟨_, Tryd.underlying155, rfl, by kernel_rfl⟩
instance : ZeroT Tryd.prog 155 [.nilFunc] := ⟨.nilFunc, by kernel_rfl, .one rfl⟩
instance : Sc Tryd.prog 156 := ⟨_, Tryd.underlying156, rfl, by kernel_rfl⟩
instance : ZeroT Tryd.prog 156 [.nilFunc] := ⟨.nilFunc, by kernel_rfl, .one rfl⟩
instance : Sc Tryd.prog 158 := ⟨_, Tryd.underlying158, rfl, by kernel_rfl⟩
instance : ZeroT Tryd.prog 158 [.nilFunc] := ⟨.nilFunc, by kernel_rfl, .one rfl⟩
instance : Sc Tryd.prog 159 := ⟨_, Tryd.underlying159, rfl, by kernel_rfl⟩
instance : ZeroT Tryd.prog 159 [.nilFunc] := ⟨.nilFunc, by kernel_rfl, .one rfl⟩
instance : Sc Tryd.prog 160 := ⟨_, Tryd.underlying160, rfl, by kernel_rfl⟩
instance : ZeroT Tryd.prog 160 [.nilFunc] := ⟨.nilFunc, by kernel_rfl, .one rfl⟩
instance : Sc Tryd.prog 161 := ⟨_, Tryd.underlying161, rfl, by kernel_rfl⟩
instance : ZeroT Tryd.prog 161 [.nilFunc] := ⟨.nilFunc, by kernel_rfl, .one rfl⟩
instance : Sc Tryd.prog 162 := ⟨_, Tryd.underlying162, rfl, by kernel_rfl⟩
instance : ZeroT Tryd.prog 162 [.nilFunc] := ⟨.nilFunc, by kernel_rfl, .one rfl⟩
instance : Sc Tryd.prog 163 := ⟨_, Tryd.underlying163, rfl, by kernel_rfl⟩
instance : ZeroT Tryd.prog 163 [.nilFunc] := ⟨.nilFunc, by kernel_rfl, .one rfl⟩
instance : Sc Tryd.prog 164 := ⟨_, Tryd.underlying164, rfl, by kernel_rfl⟩
instance : ZeroT Tryd.prog 164 [.nilFunc] := ⟨.nilFunc, by kernel_rfl, .one rfl⟩
instance : Sc Tryd.prog 165 := ⟨_, Tryd.underlying165, rfl, by kernel_rfl⟩
instance : ZeroT Tryd.prog 165 [.nilFunc] := ⟨.nilFunc, by kernel_rfl, .one rfl⟩
instance : Ag Tryd.prog 166 1 := ⟨_, Tryd.underlying166, rfl, by kernel_rfl⟩
instance : FieldAt Tryd.prog 166 0 0 := ⟨_, _, 0, Tryd.underlying166, rfl, rfl, by kernel_rfl⟩
instance : OffsT Tryd.prog 166 [(0, 1)] [.slice none 0 0] := ⟨(([(0, 1)] : List (Nat × Nat)).toArray[·]?), fun _ => by kernel_rfl, fun i p h => by simpa using h⟩
instance : ZeroT Tryd.prog 166 [.slice none 0 0] := ⟨_, show still Tryd.prog (zeroValue 166) = some (.agg (List.toArray [.slice none 0 0])) by kernel_rfl, .agg _⟩
instance : Ag Tryd.prog 167 1 := ⟨_, Tryd.underlying167, rfl, by kernel_rfl⟩
instance : FieldAt Tryd.prog 167 0 0 := ⟨_, _, 0, Tryd.underlying167, rfl, rfl, by kernel_rfl⟩
instance : OffsT Tryd.prog 167 [(0, 1)] [.slice none 0 0] := ⟨(([(0, 1)] : List (Nat × Nat)).toArray[·]?), fun _ => by kernel_rfl, fun i p h => by simpa using h⟩
instance : ZeroT Tryd.prog 167 [.slice none 0 0] := ⟨_, show still Tryd.prog (zeroValue 167) = some (.agg (List.toArray [.slice none 0 0])) by kernel_rfl, .agg _⟩
instance : Sc Tryd.prog 168 := ⟨_, Tryd.underlying168, rfl, by kernel_rfl⟩
instance : ZeroT Tryd.prog 168 [.nilFunc] := ⟨.nilFunc, by kernel_rfl, .one rfl⟩
instance : Ag Tryd.prog 169 4 := ⟨_, Tryd.underlying169, rfl, by kernel_rfl⟩
instance : FieldAt Tryd.prog 169 0 0 := ⟨_, _, 0, Tryd.underlying169, rfl, rfl, by kernel_rfl⟩
instance : FieldAt Tryd.prog 169 1 1 := ⟨_, _, 2, Tryd.underlying169, rfl, rfl, by kernel_rfl⟩
instance : OffsT Tryd.prog 169 [(0, 1), (1, 3)] [.int .i64 0, .int .i64 0, .int .i64 0, .int .i64 0] := ⟨(([(0, 1), (1, 3)] : List (Nat × Nat)).toArray[·]?), fun _ => by kernel_rfl, fun i p h => by simpa using h⟩
instance : ZeroT Tryd.prog 169 [.int .i64 0, .int .i64 0, .int .i64 0, .int .i64 0] := ⟨_, show still Tryd.prog (zeroValue 169) = some (.agg (List.toArray [.int .i64 0, .int .i64 0, .int .i64 0, .int .i64 0])) by kernel_rfl, .agg _⟩
instance : Ag Tryd.prog 170 4 := ⟨_, Tryd.underlying170, rfl, by kernel_rfl⟩
instance : FieldAt Tryd.prog 170 0 0 := ⟨_, _, 0, Tryd.underlying170, rfl, rfl, by kernel_rfl⟩
instance : FieldAt Tryd.prog 170 1 1 := ⟨_, _, 2, Tryd.underlying170, rfl, rfl, by kernel_rfl⟩
instance : OffsT Tryd.prog 170 [(0, 1), (1, 3)] [.int .i64 0, .int .i64 0, .int .i64 0, .int .i64 0] := ⟨(([(0, 1), (1, 3)] : List (Nat × Nat)).toArray[·]?), fun _ => by kernel_rfl, fun i p h => by simpa using h⟩
instance : ZeroT Tryd.prog 170 [.int .i64 0, .int .i64 0, .int .i64 0, .int .i64 0] := ⟨_, show still Tryd.prog (zeroValue 170) = some (.agg (List.toArray [.int .i64 0, .int .i64 0, .int .i64 0, .int .i64 0])) by kernel_rfl, .agg _⟩
instance : Sc Tryd.prog 171 := ⟨_, Tryd.underlying171, rfl, by kernel_rfl⟩
instance : ZeroT Tryd.prog 171 [.nilFunc] := ⟨.nilFunc, by kernel_rfl, .one rfl⟩
instance : Sc Tryd.prog 172 := ⟨_, Tryd.underlying172, rfl, by kernel_rfl⟩
instance : ZeroT Tryd.prog 172 [.nilFunc] := ⟨.nilFunc, by kernel_rfl, .one rfl⟩
instance : Sc Tryd.prog 173 := ⟨_, Tryd.underlying173, rfl, by kernel_rfl⟩
instance : ZeroT Tryd.prog 173 [.nilFunc] := ⟨.nilFunc, by kernel_rfl, .one rfl⟩
instance : Sc Tryd.prog 174 := ⟨_, Tryd.underlying174, rfl, by kernel_rfl⟩
instance : ZeroT Tryd.prog 174 [.pointer none] := ⟨.pointer none, by kernel_rfl, .one rfl⟩
instance : Ag Tryd.prog 175 2 := ⟨_, Tryd.underlying175, rfl, by kernel_rfl⟩
instance : FieldAt Tryd.prog 175 0 0 := ⟨_, _, 0, Tryd.underlying175, rfl, rfl, by kernel_rfl⟩
instance : FieldAt Tryd.prog 175 1 1 := ⟨_, _, 0, Tryd.underlying175, rfl, rfl, by kernel_rfl⟩
instance : OffsT Tryd.prog 175 [(0, 1), (1, 1)] [.pointer none, .slice none 0 0] := ⟨(([(0, 1), (1, 1)] : List (Nat × Nat)).toArray[·]?), fun _ => by kernel_rfl, fun i p h => by simpa using h⟩
instance : ZeroT Tryd.prog 175 [.pointer none, .slice none 0 0] := ⟨_, show still Tryd.prog (zeroValue 175) = some (.agg (List.toArray [.pointer none, .slice none 0 0])) by kernel_rfl, .agg _⟩
instance : Ag Tryd.prog 176 2 := ⟨_, Tryd.underlying176, rfl, by kernel_rfl⟩
instance : FieldAt Tryd.prog 176 0 0 := ⟨_, _, 0, Tryd.underlying176, rfl, rfl, by kernel_rfl⟩
instance : FieldAt Tryd.prog 176 1 1 := ⟨_, _, 0, Tryd.underlying176, rfl, rfl, by kernel_rfl⟩
instance : OffsT Tryd.prog 176 [(0, 1), (1, 1)] [.pointer none, .slice none 0 0] := ⟨(([(0, 1), (1, 1)] : List (Nat × Nat)).toArray[·]?), fun _ => by kernel_rfl, fun i p h => by simpa using h⟩
instance : ZeroT Tryd.prog 176 [.pointer none, .slice none 0 0] := ⟨_, show still Tryd.prog (zeroValue 176) = some (.agg (List.toArray [.pointer none, .slice none 0 0])) by kernel_rfl, .agg _⟩
instance : Sc Tryd.prog 177 := ⟨_, Tryd.underlying177, rfl, by kernel_rfl⟩
instance : ZeroT Tryd.prog 177 [.nilFunc] := ⟨.nilFunc, by kernel_rfl, .one rfl⟩
instance : Sc Tryd.prog 178 := ⟨_, Tryd.underlying178, rfl, by kernel_rfl⟩
instance : ZeroT Tryd.prog 178 [.nilFunc] := ⟨.nilFunc, by kernel_rfl, .one rfl⟩
instance : Ag Tryd.prog 179 2 := ⟨_, Tryd.underlying179, rfl, by kernel_rfl⟩
instance : FieldAt Tryd.prog 179 0 0 := ⟨_, _, 0, Tryd.underlying179, rfl, rfl, by kernel_rfl⟩
instance : FieldAt Tryd.prog 179 1 1 := ⟨_, _, 0, Tryd.underlying179, rfl, rfl, by kernel_rfl⟩
instance : OffsT Tryd.prog 179 [(0, 1), (1, 1)] [.int .u8 0, .int .u8 0] := ⟨(([(0, 1), (1, 1)] : List (Nat × Nat)).toArray[·]?), fun _ => by kernel_rfl, fun i p h => by simpa using h⟩
instance : ZeroT Tryd.prog 179 [.int .u8 0, .int .u8 0] := ⟨_, show still Tryd.prog (zeroValue 179) = some (.agg (List.toArray [.int .u8 0, .int .u8 0])) by kernel_rfl, .agg _⟩
instance : Ag Tryd.prog 180 2 := ⟨_, Tryd.underlying180, rfl, by kernel_rfl⟩
instance : FieldAt Tryd.prog 180 0 0 := ⟨_, _, 0, Tryd.underlying180, rfl, rfl, by kernel_rfl⟩
instance : FieldAt Tryd.prog 180 1 1 := ⟨_, _, 0, Tryd.underlying180, rfl, rfl, by kernel_rfl⟩
instance : OffsT Tryd.prog 180 [(0, 1), (1, 1)] [.int .u8 0, .int .u8 0] := ⟨(([(0, 1), (1, 1)] : List (Nat × Nat)).toArray[·]?), fun _ => by kernel_rfl, fun i p h => by simpa using h⟩
instance : ZeroT Tryd.prog 180 [.int .u8 0, .int .u8 0] := ⟨_, show still Tryd.prog (zeroValue 180) = some (.agg (List.toArray [.int .u8 0, .int .u8 0])) by kernel_rfl, .agg _⟩
instance : Ag Tryd.prog 181 32 := ⟨_, Tryd.underlying181, rfl, by kernel_rfl⟩
instance : ArrT Tryd.prog 181 16 180 2 := ⟨Tryd.underlying181, by kernel_rfl⟩
instance : OffsT Tryd.prog 181 (arrOffs 16 2) [.int .u8 0, .int .u8 0, .int .u8 0, .int .u8 0, .int .u8 0, .int .u8 0, .int .u8 0, .int .u8 0, .int .u8 0, .int .u8 0, .int .u8 0, .int .u8 0, .int .u8 0, .int .u8 0, .int .u8 0, .int .u8 0, .int .u8 0, .int .u8 0, .int .u8 0, .int .u8 0, .int .u8 0, .int .u8 0, .int .u8 0, .int .u8 0, .int .u8 0, .int .u8 0, .int .u8 0, .int .u8 0, .int .u8 0, .int .u8 0, .int .u8 0, .int .u8 0] := ⟨fun i => some (i * 2, 2), fun _ => by kernel_rfl, arrOffs_at 16 2⟩
instance : ZeroT Tryd.prog 181 [.int .u8 0, .int .u8 0, .int .u8 0, .int .u8 0, .int .u8 0, .int .u8 0, .int .u8 0, .int .u8 0, .int .u8 0, .int .u8 0, .int .u8 0, .int .u8 0, .int .u8 0, .int .u8 0, .int .u8 0, .int .u8 0, .int .u8 0, .int .u8 0, .int .u8 0, .int .u8 0, .int .u8 0, .int .u8 0, .int .u8 0, .int .u8 0, .int .u8 0, .int .u8 0, .int .u8 0, .int .u8 0, .int .u8 0, .int .u8 0, .int .u8 0, .int .u8 0] := ⟨_, show still Tryd.prog (zeroValue 181) = some (.agg (List.toArray [.int .u8 0, .int .u8 0, .int .u8 0, .int .u8 0, .int .u8 0, .int .u8 0, .int .u8 0, .int .u8 0, .int .u8 0, .int .u8 0, .int .u8 0, .int .u8 0, .int .u8 0, .int .u8 0, .int .u8 0, .int .u8 0, .int .u8 0, .int .u8 0, .int .u8 0, .int .u8 0, .int .u8 0, .int .u8 0, .int .u8 0, .int .u8 0, .int .u8 0, .int .u8 0, .int .u8 0, .int .u8 0, .int .u8 0, .int .u8 0, .int .u8 0, .int .u8 0])) by kernel_rfl, .agg _⟩
instance : Sc Tryd.prog 182 := ⟨_, Tryd.underlying182, rfl, by kernel_rfl⟩
instance : ZeroT Tryd.prog 182 [.nilFunc] := ⟨.nilFunc, by kernel_rfl, .one rfl⟩
instance : Sc Tryd.prog 183 := ⟨_, Tryd.underlying183, rfl, by kernel_rfl⟩
instance : ZeroT Tryd.prog 183 [.nilFunc] := ⟨.nilFunc, by kernel_rfl, .one rfl⟩
instance : Sc Tryd.prog 184 := ⟨_, Tryd.underlying184, rfl, by kernel_rfl⟩
instance : ZeroT Tryd.prog 184 [.nilFunc] := ⟨.nilFunc, by kernel_rfl, .one rfl⟩
instance : Sc Tryd.prog 185 := ⟨_, Tryd.underlying185, rfl, by kernel_rfl⟩
instance : ZeroT Tryd.prog 185 [.nilFunc] := ⟨.nilFunc, by kernel_rfl, .one rfl⟩
instance : Sc Tryd.prog 186 := ⟨_, Tryd.underlying186, rfl, by kernel_rfl⟩
instance : ZeroT Tryd.prog 186 [.nilFunc] := ⟨.nilFunc, by kernel_rfl, .one rfl⟩
instance : Sc Tryd.prog 188 := ⟨_, Tryd.underlying188, rfl, by kernel_rfl⟩
instance : ZeroT Tryd.prog 188 [.nilFunc] := ⟨.nilFunc, by kernel_rfl, .one rfl⟩
instance : Sc Tryd.prog 189 := ⟨_, Tryd.underlying189, rfl, by kernel_rfl⟩
instance : ZeroT Tryd.prog 189 [.nilFunc] := ⟨.nilFunc, by kernel_rfl, .one rfl⟩
instance : Sc Tryd.prog 190 := ⟨_, Tryd.underlying190, rfl, by kernel_rfl⟩
instance : ZeroT Tryd.prog 190 [.int .i64 0] := ⟨.int .i64 0, by kernel_rfl, .one rfl⟩
instance : IntT Tryd.prog 190 .i64 := ⟨Tryd.underlying190⟩
instance : Sc Tryd.prog 192 := ⟨_, Tryd.underlying192, rfl, by kernel_rfl⟩
instance : ZeroT Tryd.prog 192 [.nilFunc] := ⟨.nilFunc, by kernel_rfl, .one rfl⟩
instance : Sc Tryd.prog 193 := ⟨_, Tryd.underlying193, rfl, by kernel_rfl⟩
instance : ZeroT Tryd.prog 193 [.pointer none] := ⟨.pointer none, by kernel_rfl, .one rfl⟩
instance : Sc Tryd.prog 194 := ⟨_, Tryd.underlying194, rfl, by kernel_rfl⟩
instance : ZeroT Tryd.prog 194 [.nilFunc] := ⟨.nilFunc, by kernel_rfl, .one rfl⟩
instance : Sc Tryd.prog 195 := ⟨_, Tryd.underlying195, rfl, by kernel_rfl⟩
instance : ZeroT Tryd.prog 195 [.nilFunc] := ⟨.nilFunc, by kernel_rfl, .one rfl⟩
instance : Sc Tryd.prog 197 := ⟨_, Tryd.underlying197, rfl, by kernel_rfl⟩
instance : ZeroT Tryd.prog 197 [.nilFunc] := ⟨.nilFunc, by kernel_rfl, .one rfl⟩
instance : Sc Tryd.prog 198 := ⟨_, Tryd.underlying198, rfl, by kernel_rfl⟩
instance : ZeroT Tryd.prog 198 [.nilFunc] := ⟨.nilFunc, by kernel_rfl, .one rfl⟩
instance : Sc Tryd.prog 200 := ⟨_, Tryd.underlying200, rfl, by kernel_rfl⟩
instance : ZeroT Tryd.prog 200 [.nilFunc] := ⟨.nilFunc, by kernel_rfl, .one rfl⟩
instance : Sc Tryd.prog 201 := ⟨_, Tryd.underlying201, rfl, by kernel_rfl⟩
instance : ZeroT Tryd.prog 201 [.nilFunc] := ⟨.nilFunc, by kernel_rfl, .one rfl⟩
instance : Sc Tryd.prog 202 := ⟨_, Tryd.underlying202, rfl, by kernel_rfl⟩
instance : ZeroT Tryd.prog 202 [.nilFunc] := ⟨.nilFunc, by kernel_rfl, .one rfl⟩
instance : Sc Tryd.prog 203 := ⟨_, Tryd.underlying203, rfl, by kernel_rfl⟩
instance : ZeroT Tryd.prog 203 [.nilFunc] := ⟨.nilFunc, by kernel_rfl, .one rfl⟩
instance : Sc Tryd.prog 204 := ⟨_, Tryd.underlying204, rfl, by kernel_rfl⟩
instance : ZeroT Tryd.prog 204 [.nilFunc] := ⟨.nilFunc, by kernel_rfl, .one rfl⟩
instance : Sc Tryd.prog 205 := ⟨_, Tryd.underlying205, rfl, by kernel_rfl⟩
instance : ZeroT Tryd.prog 205 [.nilFunc] := ⟨.nilFunc, by kernel_rfl, .one rfl⟩
instance : Sc Tryd.prog 206 := ⟨_, Tryd.underlying206, rfl, by kernel_rfl⟩
instance : ZeroT Tryd.prog 206 [.nilFunc] := ⟨.nilFunc, by kernel_rfl, .one rfl⟩
instance : Sc Tryd.prog 207 := ⟨_, Tryd.underlying207, rfl, by kernel_rfl⟩
instance : ZeroT Tryd.prog 207 [.nilFunc] := ⟨.nilFunc, by kernel_rfl, .one rfl⟩
instance : Sc Tryd.prog 208 := ⟨_, Tryd.underlying208, rfl, by kernel_rfl⟩
instance : ZeroT Tryd.prog 208 [.pointer none] := ⟨.pointer none, by kernel_rfl, .one rfl⟩
instance : Sc Tryd.prog 210 := ⟨_, Tryd.underlying210, rfl, by kernel_rfl⟩
instance : ZeroT Tryd.prog 210 [.nilFunc] := ⟨.nilFunc, by kernel_rfl, .one rfl⟩
instance : Sc Tryd.prog 211 := ⟨_, Tryd.underlying211, rfl, by kernel_rfl⟩
instance : ZeroT Tryd.prog 211 [.nilFunc] := ⟨.nilFunc, by kernel_rfl, .one rfl⟩
instance : Ag Tryd.prog 212 24 := ⟨_, Tryd.underlying212, rfl, by kernel_rfl⟩
instance : ArrT Tryd.prog 212 24 5 1 := ⟨Tryd.underlying212, by kernel_rfl⟩
instance : OffsT Tryd.prog 212 (arrOffs 24 1) [.int .u8 0, .int .u8 0, .int .u8 0, .int .u8 0, .int .u8 0, .int .u8 0, .int .u8 0, .int .u8 0, .int .u8 0, .int .u8 0, .int .u8 0, .int .u8 0, .int .u8 0, .int .u8 0, .int .u8 0, .int .u8 0, .int .u8 0, .int .u8 0, .int .u8 0, .int .u8 0, .int .u8 0, .int .u8 0, .int .u8 0, .int .u8 0] := ⟨fun i => some (i * 1, 1), fun _ => by kernel_rfl, arrOffs_at 24 1⟩
instance : ZeroT Tryd.prog 212 [.int .u8 0, .int .u8 0, .int .u8 0, .int .u8 0, .int .u8 0, .int .u8 0, .int .u8 0, .int .u8 0, .int .u8 0, .int .u8 0, .int .u8 0, .int .u8 0, .int .u8 0, .int .u8 0, .int .u8 0, .int .u8 0, .int .u8 0, .int .u8 0, .int .u8 0, .int .u8 0, .int .u8 0, .int .u8 0, .int .u8 0, .int .u8 0] := ⟨_, show still Tryd.prog (zeroValue 212) = some (.agg (List.toArray [.int .u8 0, .int .u8 0, .int .u8 0, .int .u8 0, .int .u8 0, .int .u8 0, .int .u8 0, .int .u8 0, .int .u8 0, .int .u8 0, .int .u8 0, .int .u8 0, .int .u8 0, .int .u8 0, .int .u8 0, .int .u8 0, .int .u8 0, .int .u8 0, .int .u8 0, .int .u8 0, .int .u8 0, .int .u8 0, .int .u8 0, .int .u8 0])) by kernel_rfl, .agg _⟩
instance : Sc Tryd.prog 213 := ⟨_, Tryd.underlying213, rfl, by kernel_rfl⟩
instance : ZeroT Tryd.prog 213 [.nilFunc] := ⟨.nilFunc, by kernel_rfl, .one rfl⟩
instance : Sc Tryd.prog 214 := ⟨_, Tryd.underlying214, rfl, by kernel_rfl⟩
instance : ZeroT Tryd.prog 214 [.nilFunc] := ⟨.nilFunc, by kernel_rfl, .one rfl⟩
instance : Sc Tryd.prog 216 := ⟨_, Tryd.underlying216, rfl, by kernel_rfl⟩
instance : ZeroT Tryd.prog 216 [.nilFunc] := ⟨.nilFunc, by kernel_rfl, .one rfl⟩
instance : Sc Tryd.prog 217 := ⟨_, Tryd.underlying217, rfl, by kernel_rfl⟩
instance : ZeroT Tryd.prog 217 [.nilFunc] := ⟨.nilFunc, by kernel_rfl, .one rfl⟩
instance : Sc Tryd.prog 218 := ⟨_, Tryd.underlying218, rfl, by kernel_rfl⟩
instance : ZeroT Tryd.prog 218 [.nilFunc] := ⟨.nilFunc, by kernel_rfl, .one rfl⟩
instance : Sc Tryd.prog 220 := ⟨_, Tryd.underlying220, rfl, by kernel_rfl⟩
instance : ZeroT Tryd.prog 220 [.nilFunc] := ⟨.nilFunc, by kernel_rfl, .one rfl⟩
instance : Ag Tryd.prog 221 3 := ⟨_, Tryd.underlying221, rfl, by kernel_rfl⟩
instance : FieldAt Tryd.prog 221 0 0 := ⟨_, _, 0, Tryd.underlying221, rfl, rfl, by kernel_rfl⟩
instance : FieldAt Tryd.prog 221 1 1 := ⟨_, _, 0, Tryd.underlying221, rfl, rfl, by kernel_rfl⟩
instance : FieldAt Tryd.prog 221 2 2 := ⟨_, _, 0, Tryd.underlying221, rfl, rfl, by kernel_rfl⟩
instance : OffsT Tryd.prog 221 [(0, 1), (1, 1), (2, 1)] [.string .empty, .string .empty, .nilIface] := ⟨(([(0, 1), (1, 1), (2, 1)] : List (Nat × Nat)).toArray[·]?), fun _ => by kernel_rfl, fun i p h => by simpa using h⟩
instance : ZeroT Tryd.prog 221 [.string .empty, .string .empty, .nilIface] := ⟨_, show still Tryd.prog (zeroValue 221) = some (.agg (List.toArray [.string .empty, .string .empty, .nilIface])) by kernel_rfl, .agg _⟩
instance : Ag Tryd.prog 222 3 := ⟨_, Tryd.underlying222, rfl, by kernel_rfl⟩
instance : FieldAt Tryd.prog 222 0 0 := ⟨_, _, 0, Tryd.underlying222, rfl, rfl, by kernel_rfl⟩
instance : FieldAt Tryd.prog 222 1 1 := ⟨_, _, 0, Tryd.underlying222, rfl, rfl, by kernel_rfl⟩
instance : FieldAt Tryd.prog 222 2 2 := ⟨_, _, 0, Tryd.underlying222, rfl, rfl, by kernel_rfl⟩
instance : OffsT Tryd.prog 222 [(0, 1), (1, 1), (2, 1)] [.string .empty, .string .empty, .nilIface] := ⟨(([(0, 1), (1, 1), (2, 1)] : List (Nat × Nat)).toArray[·]?), fun _ => by kernel_rfl, fun i p h => by simpa using h⟩
instance : ZeroT Tryd.prog 222 [.string .empty, .string .empty, .nilIface] := ⟨_, show still Tryd.prog (zeroValue 222) = some (.agg (List.toArray [.string .empty, .string .empty, .nilIface])) by kernel_rfl, .agg _⟩
instance : Sc Tryd.prog 223 := ⟨_, Tryd.underlying223, rfl, by kernel_rfl⟩
instance : ZeroT Tryd.prog 223 [.nilFunc] := ⟨.nilFunc, by kernel_rfl, .one rfl⟩
instance : Sc Tryd.prog 224 := ⟨_, Tryd.underlying224, rfl, by kernel_rfl⟩
instance : ZeroT Tryd.prog 224 [.nilFunc] := ⟨.nilFunc, by kernel_rfl, .one rfl⟩
instance : Sc Tryd.prog 225 := ⟨_, Tryd.underlying225, rfl, by kernel_rfl⟩
instance : ZeroT Tryd.prog 225 [.nilFunc] := ⟨.nilFunc, by kernel_rfl, .one rfl⟩
instance : Sc Tryd.prog 226 := ⟨_, Tryd.underlying226, rfl, by kernel_rfl⟩
instance : ZeroT Tryd.prog 226 [.int .u32 0] := ⟨.int .u32 0, by kernel_rfl, .one rfl⟩
instance : IntT Tryd.prog 226 .u32 := ⟨Tryd.underlying226⟩
instance : Sc Tryd.prog 227 := ⟨_, Tryd.underlying227, rfl, by kernel_rfl⟩
-- type 227: ('unsafePointer',)
instance : Sc Tryd.prog 228 := ⟨_, Tryd.underlying228, rfl, by kernel_rfl⟩
instance : ZeroT Tryd.prog 228 [.nilFunc] := ⟨.nilFunc, by kernel_rfl, .one rfl⟩
instance : Sc Tryd.prog 229 := ⟨_, Tryd.underlying229, rfl, by kernel_rfl⟩
instance : ZeroT Tryd.prog 229 [.nilFunc] := ⟨.nilFunc, by kernel_rfl, .one rfl⟩
instance : Sc Tryd.prog 231 := ⟨_, Tryd.underlying231, rfl, by kernel_rfl⟩
instance : ZeroT Tryd.prog 231 [.nilFunc] := ⟨.nilFunc, by kernel_rfl, .one rfl⟩
instance : Sc Tryd.prog 233 := ⟨_, Tryd.underlying233, rfl, by kernel_rfl⟩
instance : ZeroT Tryd.prog 233 [.nilFunc] := ⟨.nilFunc, by kernel_rfl, .one rfl⟩
instance : Sc Tryd.prog 234 := ⟨_, Tryd.underlying234, rfl, by kernel_rfl⟩
instance : ZeroT Tryd.prog 234 [.nilFunc] := ⟨.nilFunc, by kernel_rfl, .one rfl⟩
instance : Sc Tryd.prog 235 := ⟨_, Tryd.underlying235, rfl, by kernel_rfl⟩
instance : ZeroT Tryd.prog 235 [.nilFunc] := ⟨.nilFunc, by kernel_rfl, .one rfl⟩
instance : Ag Tryd.prog 236 20 := ⟨_, Tryd.underlying236, rfl, by kernel_rfl⟩
instance : ArrT Tryd.prog 236 20 51 1 := ⟨Tryd.underlying236, by kernel_rfl⟩
instance : OffsT Tryd.prog 236 (arrOffs 20 1) [.int .u64 0, .int .u64 0, .int .u64 0, .int .u64 0, .int .u64 0, .int .u64 0, .int .u64 0, .int .u64 0, .int .u64 0, .int .u64 0, .int .u64 0, .int .u64 0, .int .u64 0, .int .u64 0, .int .u64 0, .int .u64 0, .int .u64 0, .int .u64 0, .int .u64 0, .int .u64 0] := ⟨fun i => some (i * 1, 1), fun _ => by kernel_rfl, arrOffs_at 20 1⟩
instance : ZeroT Tryd.prog 236 [.int .u64 0, .int .u64 0, .int .u64 0, .int .u64 0, .int .u64 0, .int .u64 0, .int .u64 0, .int .u64 0, .int .u64 0, .int .u64 0, .int .u64 0, .int .u64 0, .int .u64 0, .int .u64 0, .int .u64 0, .int .u64 0, .int .u64 0, .int .u64 0, .int .u64 0, .int .u64 0] := ⟨_, show still Tryd.prog (zeroValue 236) = some (.agg (List.toArray [.int .u64 0, .int .u64 0, .int .u64 0, .int .u64 0, .int .u64 0, .int .u64 0, .int .u64 0, .int .u64 0, .int .u64 0, .int .u64 0, .int .u64 0, .int .u64 0, .int .u64 0, .int .u64 0, .int .u64 0, .int .u64 0, .int .u64 0, .int .u64 0, .int .u64 0, .int .u64 0])) by kernel_rfl, .agg _⟩
instance : Ag Tryd.prog 237 65 := ⟨_, Tryd.underlying237, rfl, by kernel_rfl⟩
instance : ArrT Tryd.prog 237 65 5 1 := ⟨Tryd.underlying237, by kernel_rfl⟩
instance : Sc Tryd.prog 238 := ⟨_, Tryd.underlying238, rfl, by kernel_rfl⟩
instance : ZeroT Tryd.prog 238 [.nilFunc] := ⟨.nilFunc, by kernel_rfl, .one rfl⟩
instance : Sc Tryd.prog 239 := ⟨_, Tryd.underlying239, rfl, by kernel_rfl⟩
instance : ZeroT Tryd.prog 239 [.nilFunc] := ⟨.nilFunc, by kernel_rfl, .one rfl⟩
instance : Sc Tryd.prog 240 := ⟨_, Tryd.underlying240, rfl, by kernel_rfl⟩
instance : ZeroT Tryd.prog 240 [.nilFunc] := ⟨.nilFunc, by kernel_rfl, .one rfl⟩
instance : Sc Tryd.prog 241 := ⟨_, Tryd.underlying241, rfl, by kernel_rfl⟩
instance : ZeroT Tryd.prog 241 [.pointer none] := ⟨.pointer none, by kernel_rfl, .one rfl⟩
instance : Ag Tryd.prog 242 1 := ⟨_, Tryd.underlying242, rfl, by kernel_rfl⟩
instance : FieldAt Tryd.prog 242 0 0 := ⟨_, _, 0, Tryd.underlying242, rfl, rfl, by kernel_rfl⟩
instance : OffsT Tryd.prog 242 [(0, 1)] [.string .empty] := ⟨(([(0, 1)] : List (Nat × Nat)).toArray[·]?), fun _ => by kernel_rfl, fun i p h => by simpa using h⟩
instance : ZeroT Tryd.prog 242 [.string .empty] := ⟨_, show still Tryd.prog (zeroValue 242) = some (.agg (List.toArray [.string .empty])) by kernel_rfl, .agg _⟩
instance : Ag Tryd.prog 243 1 := ⟨_, Tryd.underlying243, rfl, by kernel_rfl⟩
instance : FieldAt Tryd.prog 243 0 0 := ⟨_, _, 0, Tryd.underlying243, rfl, rfl, by kernel_rfl⟩
instance : OffsT Tryd.prog 243 [(0, 1)] [.string .empty] := ⟨(([(0, 1)] : List (Nat × Nat)).toArray[·]?), fun _ => by kernel_rfl, fun i p h => by simpa using h⟩
instance : ZeroT Tryd.prog 243 [.string .empty] := ⟨_, show still Tryd.prog (zeroValue 243) = some (.agg (List.toArray [.string .empty])) by kernel_rfl, .agg _⟩
instance : Sc Tryd.prog 244 := ⟨_, Tryd.underlying244, rfl, by kernel_rfl⟩
instance : ZeroT Tryd.prog 244 [.nilFunc] := ⟨.nilFunc, by kernel_rfl, .one rfl⟩
instance : Sc Tryd.prog 245 := ⟨_, Tryd.underlying245, rfl, by kernel_rfl⟩
instance : ZeroT Tryd.prog 245 [.nilFunc] := ⟨.nilFunc, by kernel_rfl, .one rfl⟩
instance : Ag Tryd.prog 246 32 := ⟨_, Tryd.underlying246, rfl, by kernel_rfl⟩
instance : ArrT Tryd.prog 246 32 5 1 := ⟨Tryd.underlying246, by kernel_rfl⟩
instance : OffsT Tryd.prog 246 (arrOffs 32 1) [.int .u8 0, .int .u8 0, .int .u8 0, .int .u8 0, .int .u8 0, .int .u8 0, .int .u8 0, .int .u8 0, .int .u8 0, .int .u8 0, .int .u8 0, .int .u8 0, .int .u8 0, .int .u8 0, .int .u8 0, .int .u8 0, .int .u8 0, .int .u8 0, .int .u8 0, .int .u8 0, .int .u8 0, .int .u8 0, .int .u8 0, .int .u8 0, .int .u8 0, .int .u8 0, .int .u8 0, .int .u8 0, .int .u8 0, .int .u8 0, .int .u8 0, .int .u8 0] := ⟨fun i => some (i * 1, 1), fun _ => by kernel_rfl, arrOffs_at 32 1⟩
instance : ZeroT Tryd.prog 246 [.int .u8 0, .int .u8 0, .int .u8 0, .int .u8 0, .int .u8 0, .int .u8 0, .int .u8 0, .int .u8 0, .int .u8 0, .int .u8 0, .int .u8 0, .int .u8 0, .int .u8 0, .int .u8 0, .int .u8 0, .int .u8 0, .int .u8 0, .int .u8 0, .int .u8 0, .int .u8 0, .int .u8 0, .int .u8 0, .int .u8 0, .int .u8 0, .int .u8 0, .int .u8 0, .int .u8 0, .int .u8 0, .int .u8 0, .int .u8 0, .int .u8 0, .int .u8 0] := ⟨_, show still Tryd.prog (zeroValue 246) = some (.agg (List.toArray [.int .u8 0, .int .u8 0, .int .u8 0, .int .u8 0, .int .u8 0, .int .u8 0, .int .u8 0, .int .u8 0, .int .u8 0, .int .u8 0, .int .u8 0, .int .u8 0, .int .u8 0, .int .u8 0, .int .u8 0, .int .u8 0, .int .u8 0, .int .u8 0, .int .u8 0, .int .u8 0, .int .u8 0, .int .u8 0, .int .u8 0, .int .u8 0, .int .u8 0, .int .u8 0, .int .u8 0, .int .u8 0, .int .u8 0, .int .u8 0, .int .u8 0, .int .u8 0])) by kernel_rfl, .agg _⟩
instance : Ag Tryd.prog 247 64 := ⟨_, Tryd.underlying247, rfl, by kernel_rfl⟩
instance : ArrT Tryd.prog 247 64 5 1 := ⟨Tryd.underlying247, by kernel_rfl⟩
instance : Ag Tryd.prog 248 4 := ⟨_, Tryd.underlying248, rfl, by kernel_rfl⟩
instance : FieldAt Tryd.prog 248 0 0 := ⟨_, _, 0, Tryd.underlying248, rfl, rfl, by kernel_rfl⟩
instance : FieldAt Tryd.prog 248 1 1 := ⟨_, _, 0, Tryd.underlying248, rfl, rfl, by kernel_rfl⟩
instance : FieldAt Tryd.prog 248 2 2 := ⟨_, _, 0, Tryd.underlying248, rfl, rfl, by kernel_rfl⟩
instance : FieldAt Tryd.prog 248 3 3 := ⟨_, _, 0, Tryd.underlying248, rfl, rfl, by kernel_rfl⟩
instance : OffsT Tryd.prog 248 [(0, 1), (1, 1), (2, 1), (3, 1)] [.pointer none, .pointer none, .pointer none, .string .empty] := ⟨(([(0, 1), (1, 1), (2, 1), (3, 1)] : List (Nat × Nat)).toArray[·]?), fun _ => by kernel_rfl, fun i p h => by simpa using h⟩
instance : ZeroT Tryd.prog 248 [.pointer none, .pointer none, .pointer none, .string .empty] := ⟨_, show still Tryd.prog (zeroValue 248) = some (.agg (List.toArray [.pointer none, .pointer none, .pointer none, .string .empty])) by kernel_rfl, .agg _⟩
instance : Ag Tryd.prog 249 4 := ⟨_, Tryd.underlying249, rfl, by kernel_rfl⟩
instance : FieldAt Tryd.prog 249 0 0 := ⟨_, _, 0, Tryd.underlying249, rfl, rfl, by kernel_rfl⟩
instance : FieldAt Tryd.prog 249 1 1 := ⟨_, _, 0, Tryd.underlying249, rfl, rfl, by kernel_rfl⟩
instance : FieldAt Tryd.prog 249 2 2 := ⟨_, _, 0, Tryd.underlying249, rfl, rfl, by kernel_rfl⟩
instance : FieldAt Tryd.prog 249 3 3 := ⟨_, _, 0, Tryd.underlying249, rfl, rfl, by kernel_rfl⟩
instance : OffsT Tryd.prog 249 [(0, 1), (1, 1), (2, 1), (3, 1)] [.pointer none, .pointer none, .pointer none, .string .empty] := ⟨(([(0, 1), (1, 1), (2, 1), (3, 1)] : List (Nat × Nat)).toArray[·]?), fun _ => by kernel_rfl, fun i p h => by simpa using h⟩
instance : ZeroT Tryd.prog 249 [.pointer none, .pointer none, .pointer none, .string .empty] := ⟨_, show still Tryd.prog (zeroValue 249) = some (.agg (List.toArray [.pointer none, .pointer none, .pointer none, .string .empty])) by kernel_rfl, .agg _⟩
instance : Sc Tryd.prog 253 := ⟨_, Tryd.underlying253, rfl, by kernel_rfl⟩
instance : ZeroT Tryd.prog 253 [.int .u8 0] := ⟨.int .u8 0, by kernel_rfl, .one rfl⟩
instance : IntT Tryd.prog 253 .u8 := ⟨Tryd.underlying253⟩
instance : Sc Tryd.prog 254 := ⟨_, Tryd.underlying254, rfl, by kernel_rfl⟩
instance : ZeroT Tryd.prog 254 [.int .u8 0] := ⟨.int .u8 0, by kernel_rfl, .one rfl⟩
instance : IntT Tryd.prog 254 .u8 := ⟨Tryd.underlying254⟩
instance : Sc Tryd.prog 255 := ⟨_, Tryd.underlying255, rfl, by kernel_rfl⟩
instance : ZeroT Tryd.prog 255 [.nilFunc] := ⟨.nilFunc, by kernel_rfl, .one rfl⟩
instance : Sc Tryd.prog 256 := ⟨_, Tryd.underlying256, rfl, by kernel_rfl⟩
instance : ZeroT Tryd.prog 256 [.int .i32 0] := ⟨.int .i32 0, by kernel_rfl, .one rfl⟩
instance : IntT Tryd.prog 256 .i32 := ⟨Tryd.underlying256⟩
instance : Sc Tryd.prog 257 := ⟨_, Tryd.underlying257, rfl, by kernel_rfl⟩
instance : ZeroT Tryd.prog 257 [.int .i32 0] := ⟨.int .i32 0, by kernel_rfl, .one rfl⟩
instance : IntT Tryd.prog 257 .i32 := ⟨Tryd.underlying257⟩
instance : Ag Tryd.prog 258 11 := ⟨_, Tryd.underlying258, rfl, by kernel_rfl⟩
instance : FieldAt Tryd.prog 258 0 0 := ⟨_, _, 0, Tryd.underlying258, rfl, rfl, by kernel_rfl⟩
instance : FieldAt Tryd.prog 258 1 1 := ⟨_, _, 0, Tryd.underlying258, rfl, rfl, by kernel_rfl⟩
instance : FieldAt Tryd.prog 258 2 2 := ⟨_, _, 0, Tryd.underlying258, rfl, rfl, by kernel_rfl⟩
instance : FieldAt Tryd.prog 258 3 3 := ⟨_, _, 0, Tryd.underlying258, rfl, rfl, by kernel_rfl⟩
instance : FieldAt Tryd.prog 258 4 4 := ⟨_, _, 0, Tryd.underlying258, rfl, rfl, by kernel_rfl⟩
instance : FieldAt Tryd.prog 258 5 5 := ⟨_, _, 0, Tryd.underlying258, rfl, rfl, by kernel_rfl⟩
instance : FieldAt Tryd.prog 258 6 6 := ⟨_, _, 0, Tryd.underlying258, rfl, rfl, by kernel_rfl⟩
instance : FieldAt Tryd.prog 258 7 7 := ⟨_, _, 0, Tryd.underlying258, rfl, rfl, by kernel_rfl⟩
instance : FieldAt Tryd.prog 258 8 8 := ⟨_, _, 0, Tryd.underlying258, rfl, rfl, by kernel_rfl⟩
instance : FieldAt Tryd.prog 258 9 9 := ⟨_, _, 0, Tryd.underlying258, rfl, rfl, by kernel_rfl⟩
instance : FieldAt Tryd.prog 258 10 10 := ⟨_, _, 0, Tryd.underlying258, rfl, rfl, by kernel_rfl⟩
instance : OffsT Tryd.prog 258 [(0, 1), (1, 1), (2, 1), (3, 1), (4, 1), (5, 1), (6, 1), (7, 1), (8, 1), (9, 1), (10, 1)] [.int .u64 0, .int .u64 0, .int .u32 0, .int .u8 0, .int .u8 0, .int .u8 0, .int .u8 0, .nilFunc, .pointer none, .int .i32 0, .int .i32 0] := ⟨(([(0, 1), (1, 1), (2, 1), (3, 1), (4, 1), (5, 1), (6, 1), (7, 1), (8, 1), (9, 1), (10, 1)] : List (Nat × Nat)).toArray[·]?), fun _ => by kernel_rfl, fun i p h => by simpa using h⟩
instance : ZeroT Tryd.prog 258 [.int .u64 0, .int .u64 0, .int .u32 0, .int .u8 0, .int .u8 0, .int .u8 0, .int .u8 0, .nilFunc, .pointer none, .int .i32 0, .int .i32 0] := ⟨_, show still Tryd.prog (zeroValue 258) = some (.agg (List.toArray [.int .u64 0, .int .u64 0, .int .u32 0, .int .u8 0, .int .u8 0, .int .u8 0, .int .u8 0, .nilFunc, .pointer none, .int .i32 0, .int .i32 0])) by kernel_rfl, .agg _⟩
instance : Ag Tryd.prog 259 11 := ⟨_, Tryd.underlying259, rfl, by kernel_rfl⟩
instance : FieldAt Tryd.prog 259 0 0 := ⟨_, _, 0, Tryd.underlying259, rfl, rfl, by kernel_rfl⟩
instance : FieldAt Tryd.prog 259 1 1 := ⟨_, _, 0, Tryd.underlying259, rfl, rfl, by kernel_rfl⟩
instance : FieldAt Tryd.prog 259 2 2 := ⟨_, _, 0, Tryd.underlying259, rfl, rfl, by kernel_rfl⟩
instance : FieldAt Tryd.prog 259 3 3 := ⟨_, _, 0, Tryd.underlying259, rfl, rfl, by kernel_rfl⟩
instance : FieldAt Tryd.prog 259 4 4 := ⟨_, _, 0, Tryd.underlying259, rfl, rfl, by kernel_rfl⟩
instance : FieldAt Tryd.prog 259 5 5 := ⟨_, _, 0, Tryd.underlying259, rfl, rfl, by kernel_rfl⟩
instance : FieldAt Tryd.prog 259 6 6 := ⟨_, _, 0, Tryd.underlying259, rfl, rfl, by kernel_rfl⟩
instance : FieldAt Tryd.prog 259 7 7 := ⟨_, _, 0, Tryd.underlying259, rfl, rfl, by kernel_rfl⟩
instance : FieldAt Tryd.prog 259 8 8 := ⟨_, _, 0, Tryd.underlying259, rfl, rfl, by kernel_rfl⟩
instance : FieldAt Tryd.prog 259 9 9 := ⟨_, _, 0, Tryd.underlying259, rfl, rfl, by kernel_rfl⟩
instance : FieldAt Tryd.prog 259 10 10 := ⟨_, _, 0, Tryd.underlying259, rfl, rfl, by kernel_rfl⟩
instance : OffsT Tryd.prog 259 [(0, 1), (1, 1), (2, 1), (3, 1), (4, 1), (5, 1), (6, 1), (7, 1), (8, 1), (9, 1), (10, 1)] [.int .u64 0, .int .u64 0, .int .u32 0, .int .u8 0, .int .u8 0, .int .u8 0, .int .u8 0, .nilFunc, .pointer none, .int .i32 0, .int .i32 0] := ⟨(([(0, 1), (1, 1), (2, 1), (3, 1), (4, 1), (5, 1), (6, 1), (7, 1), (8, 1), (9, 1), (10, 1)] : List (Nat × Nat)).toArray[·]?), fun _ => by kernel_rfl, fun i p h => by simpa using h⟩
instance : ZeroT Tryd.prog 259 [.int .u64 0, .int .u64 0, .int .u32 0, .int .u8 0, .int .u8 0, .int .u8 0, .int .u8 0, .nilFunc, .pointer none, .int .i32 0, .int .i32 0] := ⟨_, show still Tryd.prog (zeroValue 259) = some (.agg (List.toArray [.int .u64 0, .int .u64 0, .int .u32 0, .int .u8 0, .int .u8 0, .int .u8 0, .int .u8 0, .nilFunc, .pointer none, .int .i32 0, .int .i32 0])) by kernel_rfl, .agg _⟩
end Go.Proofs.YtflmckoolagikaaDoor
