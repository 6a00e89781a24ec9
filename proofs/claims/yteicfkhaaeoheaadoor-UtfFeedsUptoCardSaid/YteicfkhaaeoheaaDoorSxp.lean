/- What the types of this program are. -/
import Derived.Test.YteicfkhaaeoheaaDoorSxB
import Derived.Test.YteicfkhaaeoheaaDoorRows
namespace Go.Proofs.YteicfkhaaeoheaaDoor
open Go Go.RowKit Go.Fw Go.Sx
set_option maxRecDepth 100000
instance : Wide Tryd.prog := ⟨by kernel_rfl⟩
instance : Sc Tryd.prog 1 := ⟨_, Tryd.underlying1, rfl, by kernel_rfl⟩
instance : ZeroT Tryd.prog 1 [.nilFunc] := ⟨.nilFunc, by kernel_rfl, .one rfl⟩
instance : Sc Tryd.prog 2 := ⟨_, Tryd.underlying2, rfl, by kernel_rfl⟩
instance : ZeroT Tryd.prog 2 [.int .i64 0] := ⟨.int .i64 0, by kernel_rfl, .one rfl⟩
instance : IntT Tryd.prog 2 .i64 := ⟨Tryd.underlying2⟩
instance : Sc Tryd.prog 3 := ⟨_, Tryd.underlying3, rfl, by kernel_rfl⟩
instance : ZeroT Tryd.prog 3 [.int .i64 0] := ⟨.int .i64 0, by kernel_rfl, .one rfl⟩
instance : IntT Tryd.prog 3 .i64 := ⟨Tryd.underlying3⟩
instance : Sc Tryd.prog 4 := ⟨_, Tryd.underlying4, rfl, by kernel_rfl⟩
instance : ZeroT Tryd.prog 4 [.bool false] := ⟨.bool false, by kernel_rfl, .one rfl⟩
instance : Sc Tryd.prog 5 := ⟨_, Tryd.underlying5, rfl, by kernel_rfl⟩
instance : ZeroT Tryd.prog 5 [.int .u8 0] := ⟨.int .u8 0, by kernel_rfl, .one rfl⟩
instance : IntT Tryd.prog 5 .u8 := ⟨Tryd.underlying5⟩
instance : Sc Tryd.prog 6 := ⟨_, Tryd.underlying6, rfl, by kernel_rfl⟩
instance : ZeroT Tryd.prog 6 [.int .u8 0] := ⟨.int .u8 0, by kernel_rfl, .one rfl⟩
instance : IntT Tryd.prog 6 .u8 := ⟨Tryd.underlying6⟩
instance : Ag Tryd.prog 7 4 := ⟨_, Tryd.underlying7, rfl, by kernel_rfl⟩
instance : FieldAt Tryd.prog 7 0 0 := ⟨_, _, 0, Tryd.underlying7, rfl, rfl, by kernel_rfl⟩
instance : FieldAt Tryd.prog 7 1 1 := ⟨_, _, 0, Tryd.underlying7, rfl, rfl, by kernel_rfl⟩
instance : FieldAt Tryd.prog 7 2 2 := ⟨_, _, 0, Tryd.underlying7, rfl, rfl, by kernel_rfl⟩
instance : FieldAt Tryd.prog 7 3 3 := ⟨_, _, 0, Tryd.underlying7, rfl, rfl, by kernel_rfl⟩
instance : OffsT Tryd.prog 7 [(0, 1), (1, 1), (2, 1), (3, 1)] [.int .i64 0, .int .i64 0, .bool false, .int .u8 0] := ⟨(([(0, 1), (1, 1), (2, 1), (3, 1)] : List (Nat × Nat)).toArray[·]?), fun _ => by kernel_rfl, fun i p h => by simpa using h⟩
instance : ZeroT Tryd.prog 7 [.int .i64 0, .int .i64 0, .bool false, .int .u8 0] := ⟨_, show still Tryd.prog (zeroValue 7) = some (.agg (List.toArray [.int .i64 0, .int .i64 0, .bool false, .int .u8 0])) by kernel_rfl, .agg _⟩
instance : Ag Tryd.prog 8 4 := ⟨_, Tryd.underlying8, rfl, by kernel_rfl⟩
instance : FieldAt Tryd.prog 8 0 0 := ⟨_, _, 0, Tryd.underlying8, rfl, rfl, by kernel_rfl⟩
instance : FieldAt Tryd.prog 8 1 1 := ⟨_, _, 0, Tryd.underlying8, rfl, rfl, by kernel_rfl⟩
instance : FieldAt Tryd.prog 8 2 2 := ⟨_, _, 0, Tryd.underlying8, rfl, rfl, by kernel_rfl⟩
instance : FieldAt Tryd.prog 8 3 3 := ⟨_, _, 0, Tryd.underlying8, rfl, rfl, by kernel_rfl⟩
instance : OffsT Tryd.prog 8 [(0, 1), (1, 1), (2, 1), (3, 1)] [.int .i64 0, .int .i64 0, .bool false, .int .u8 0] := ⟨(([(0, 1), (1, 1), (2, 1), (3, 1)] : List (Nat × Nat)).toArray[·]?), fun _ => by kernel_rfl, fun i p h => by simpa using h⟩
instance : ZeroT Tryd.prog 8 [.int .i64 0, .int .i64 0, .bool false, .int .u8 0] := ⟨_, show still Tryd.prog (zeroValue 8) = some (.agg (List.toArray [.int .i64 0, .int .i64 0, .bool false, .int .u8 0])) by kernel_rfl, .agg _⟩
instance : Sc Tryd.prog 9 := ⟨_, Tryd.underlying9, rfl, by kernel_rfl⟩
instance : ZeroT Tryd.prog 9 [.string .empty] := ⟨.string .empty, by kernel_rfl, .one rfl⟩
instance : StrT Tryd.prog 9 := ⟨Tryd.underlying9⟩
instance : Sc Tryd.prog 10 := ⟨_, Tryd.underlying10, rfl, by kernel_rfl⟩
instance : ZeroT Tryd.prog 10 [.string .empty] := ⟨.string .empty, by kernel_rfl, .one rfl⟩
instance : StrT Tryd.prog 10 := ⟨Tryd.underlying10⟩
instance : Sc Tryd.prog 11 := ⟨_, Tryd.underlying11, rfl, by kernel_rfl⟩
instance : ZeroT Tryd.prog 11 [.string .empty] := ⟨.string .empty, by kernel_rfl, .one rfl⟩
instance : StrT Tryd.prog 11 := ⟨Tryd.underlying11⟩
instance : Sc Tryd.prog 12 := ⟨_, Tryd.underlying12, rfl, by kernel_rfl⟩
instance : ZeroT Tryd.prog 12 [.int .u64 0] := ⟨.int .u64 0, by kernel_rfl, .one rfl⟩
instance : IntT Tryd.prog 12 .u64 := ⟨Tryd.underlying12⟩
instance : Ag Tryd.prog 13 2 := ⟨_, Tryd.underlying13, rfl, by kernel_rfl⟩
instance : FieldAt Tryd.prog 13 0 0 := ⟨_, _, 0, Tryd.underlying13, rfl, rfl, by kernel_rfl⟩
instance : FieldAt Tryd.prog 13 1 1 := ⟨_, _, 0, Tryd.underlying13, rfl, rfl, by kernel_rfl⟩
instance : OffsT Tryd.prog 13 [(0, 1), (1, 1)] [.string .empty, .int .u64 0] := ⟨(([(0, 1), (1, 1)] : List (Nat × Nat)).toArray[·]?), fun _ => by kernel_rfl, fun i p h => by simpa using h⟩
instance : ZeroT Tryd.prog 13 [.string .empty, .int .u64 0] := ⟨_, show still Tryd.prog (zeroValue 13) = some (.agg (List.toArray [.string .empty, .int .u64 0])) by kernel_rfl, .agg _⟩
instance : Ag Tryd.prog 14 2 := ⟨_, Tryd.underlying14, rfl, by kernel_rfl⟩
instance : FieldAt Tryd.prog 14 0 0 := ⟨_, _, 0, Tryd.underlying14, rfl, rfl, by kernel_rfl⟩
instance : FieldAt Tryd.prog 14 1 1 := ⟨_, _, 0, Tryd.underlying14, rfl, rfl, by kernel_rfl⟩
instance : OffsT Tryd.prog 14 [(0, 1), (1, 1)] [.string .empty, .int .u64 0] := ⟨(([(0, 1), (1, 1)] : List (Nat × Nat)).toArray[·]?), fun _ => by kernel_rfl, fun i p h => by simpa using h⟩
instance : ZeroT Tryd.prog 14 [.string .empty, .int .u64 0] := ⟨_, show still Tryd.prog (zeroValue 14) = some (.agg (List.toArray [.string .empty, .int .u64 0])) by kernel_rfl, .agg _⟩
instance : Sc Tryd.prog 15 := ⟨_, Tryd.underlying15, rfl, by kernel_rfl⟩
instance : ZeroT Tryd.prog 15 [.pointer none] := ⟨.pointer none, by kernel_rfl, .one rfl⟩
instance : Sc Tryd.prog 16 := ⟨_, Tryd.underlying16, rfl, by kernel_rfl⟩
instance : ZeroT Tryd.prog 16 [.pointer none] := ⟨.pointer none, by kernel_rfl, .one rfl⟩
instance : Sc Tryd.prog 17 := ⟨_, Tryd.underlying17, rfl, by kernel_rfl⟩
instance : ZeroT Tryd.prog 17 [.pointer none] := ⟨.pointer none, by kernel_rfl, .one rfl⟩
instance : Ag Tryd.prog 18 1 := ⟨_, Tryd.underlying18, rfl, by kernel_rfl⟩
instance : FieldAt Tryd.prog 18 0 0 := ⟨_, _, 0, Tryd.underlying18, rfl, rfl, by kernel_rfl⟩
instance : OffsT Tryd.prog 18 [(0, 1)] [.pointer none] := ⟨(([(0, 1)] : List (Nat × Nat)).toArray[·]?), fun _ => by kernel_rfl, fun i p h => by simpa using h⟩
instance : ZeroT Tryd.prog 18 [.pointer none] := ⟨_, show still Tryd.prog (zeroValue 18) = some (.agg (List.toArray [.pointer none])) by kernel_rfl, .agg _⟩
instance : Ag Tryd.prog 19 1 := ⟨_, Tryd.underlying19, rfl, by kernel_rfl⟩
instance : FieldAt Tryd.prog 19 0 0 := ⟨_, _, 0, Tryd.underlying19, rfl, rfl, by kernel_rfl⟩
instance : OffsT Tryd.prog 19 [(0, 1)] [.pointer none] := ⟨(([(0, 1)] : List (Nat × Nat)).toArray[·]?), fun _ => by kernel_rfl, fun i p h => by simpa using h⟩
instance : ZeroT Tryd.prog 19 [.pointer none] := ⟨_, show still Tryd.prog (zeroValue 19) = some (.agg (List.toArray [.pointer none])) by kernel_rfl, .agg _⟩
instance : Sc Tryd.prog 20 := ⟨_, Tryd.underlying20, rfl, by kernel_rfl⟩
instance : ZeroT Tryd.prog 20 [.nilIface] := ⟨.nilIface, by kernel_rfl, .one rfl⟩
instance : Sc Tryd.prog 21 := ⟨_, Tryd.underlying21, rfl, by kernel_rfl⟩
instance : ZeroT Tryd.prog 21 [.int .i32 0] := ⟨.int .i32 0, by kernel_rfl, .one rfl⟩
instance : IntT Tryd.prog 21 .i32 := ⟨Tryd.underlying21⟩
instance : Sc Tryd.prog 22 := ⟨_, Tryd.underlying22, rfl, by kernel_rfl⟩
instance : ZeroT Tryd.prog 22 [.slice none 0 0] := ⟨.slice none 0 0, by kernel_rfl, .one rfl⟩
instance : SliceT Tryd.prog 22 3 1 8 := ⟨Tryd.underlying22, by decide, by decide, .int .i64 0, by kernel_rfl, by kernel_rfl⟩
instance : Sc Tryd.prog 23 := ⟨_, Tryd.underlying23, rfl, by kernel_rfl⟩
instance : ZeroT Tryd.prog 23 [.int .i64 0] := ⟨.int .i64 0, by kernel_rfl, .one rfl⟩
instance : IntT Tryd.prog 23 .i64 := ⟨Tryd.underlying23⟩
instance : Sc Tryd.prog 25 := ⟨_, Tryd.underlying25, rfl, by kernel_rfl⟩
instance : ZeroT Tryd.prog 25 [.nilFunc] := ⟨.nilFunc, by kernel_rfl, .one rfl⟩
instance : Sc Tryd.prog 26 := ⟨_, Tryd.underlying26, rfl, by kernel_rfl⟩
instance : ZeroT Tryd.prog 26 [.nilFunc] := ⟨.nilFunc, by kernel_rfl, .one rfl⟩
instance : Sc Tryd.prog 28 := ⟨_, Tryd.underlying28, rfl, by kernel_rfl⟩
instance : ZeroT Tryd.prog 28 [.nilFunc] := ⟨.nilFunc, by kernel_rfl, .one rfl⟩
instance : Sc Tryd.prog 29 := ⟨_, Tryd.underlying29, rfl, by kernel_rfl⟩
instance : ZeroT Tryd.prog 29 [.nilFunc] := ⟨.nilFunc, by kernel_rfl, .one rfl⟩
instance : Sc Tryd.prog 30 := ⟨_, Tryd.underlying30, rfl, by kernel_rfl⟩
instance : ZeroT Tryd.prog 30 [.nilFunc] := ⟨.nilFunc, by kernel_rfl, .one rfl⟩
instance : Sc Tryd.prog 31 := ⟨_, Tryd.underlying31, rfl, by kernel_rfl⟩
instance : ZeroT Tryd.prog 31 [.slice none 0 0] := ⟨.slice none 0 0, by kernel_rfl, .one rfl⟩
instance : SliceT Tryd.prog 31 9 1 16 := ⟨Tryd.underlying31, by decide, by decide, .string .empty, by kernel_rfl, by kernel_rfl⟩
instance : Sc Tryd.prog 33 := ⟨_, Tryd.underlying33, rfl, by kernel_rfl⟩
instance : ZeroT Tryd.prog 33 [.nilFunc] := ⟨.nilFunc, by kernel_rfl, .one rfl⟩
instance : Sc Tryd.prog 34 := ⟨_, Tryd.underlying34, rfl, by kernel_rfl⟩
instance : ZeroT Tryd.prog 34 [.nilFunc] := ⟨.nilFunc, by kernel_rfl, .one rfl⟩
instance : Ag Tryd.prog 35 4 := ⟨_, Tryd.underlying35, rfl, by kernel_rfl⟩
instance : FieldAt Tryd.prog 35 0 0 := ⟨_, _, 0, Tryd.underlying35, rfl, rfl, by kernel_rfl⟩
instance : FieldAt Tryd.prog 35 1 1 := ⟨_, _, 0, Tryd.underlying35, rfl, rfl, by kernel_rfl⟩
instance : FieldAt Tryd.prog 35 2 2 := ⟨_, _, 0, Tryd.underlying35, rfl, rfl, by kernel_rfl⟩
instance : FieldAt Tryd.prog 35 3 3 := ⟨_, _, 0, Tryd.underlying35, rfl, rfl, by kernel_rfl⟩
instance : OffsT Tryd.prog 35 [(0, 1), (1, 1), (2, 1), (3, 1)] [.int .i64 0, .int .i64 0, .int .i64 0, .string .empty] := ⟨(([(0, 1), (1, 1), (2, 1), (3, 1)] : List (Nat × Nat)).toArray[·]?), fun _ => by kernel_rfl, fun i p h => by simpa using h⟩
instance : ZeroT Tryd.prog 35 [.int .i64 0, .int .i64 0, .int .i64 0, .string .empty] := ⟨_, show still Tryd.prog (zeroValue 35) = some (.agg (List.toArray [.int .i64 0, .int .i64 0, .int .i64 0, .string .empty])) by kernel_rfl, .agg _⟩
instance : Ag Tryd.prog 36 4 := ⟨_, Tryd.underlying36, rfl, by kernel_rfl⟩
instance : FieldAt Tryd.prog 36 0 0 := ⟨_, _, 0, Tryd.underlying36, rfl, rfl, by kernel_rfl⟩
instance : FieldAt Tryd.prog 36 1 1 := ⟨_, _, 0, Tryd.underlying36, rfl, rfl, by kernel_rfl⟩
instance : FieldAt Tryd.prog 36 2 2 := ⟨_, _, 0, Tryd.underlying36, rfl, rfl, by kernel_rfl⟩
instance : FieldAt Tryd.prog 36 3 3 := ⟨_, _, 0, Tryd.underlying36, rfl, rfl, by kernel_rfl⟩
instance : OffsT Tryd.prog 36 [(0, 1), (1, 1), (2, 1), (3, 1)] [.int .i64 0, .int .i64 0, .int .i64 0, .string .empty] := ⟨(([(0, 1), (1, 1), (2, 1), (3, 1)] : List (Nat × Nat)).toArray[·]?), fun _ => by kernel_rfl, fun i p h => by simpa using h⟩
instance : ZeroT Tryd.prog 36 [.int .i64 0, .int .i64 0, .int .i64 0, .string .empty] := ⟨_, show still Tryd.prog (zeroValue 36) = some (.agg (List.toArray [.int .i64 0, .int .i64 0, .int .i64 0, .string .empty])) by kernel_rfl, .agg _⟩
instance : Sc Tryd.prog 37 := ⟨_, Tryd.underlying37, rfl, by kernel_rfl⟩
instance : ZeroT Tryd.prog 37 [.slice none 0 0] := ⟨.slice none 0 0, by kernel_rfl, .one rfl⟩
instance : SliceT Tryd.prog 37 36 4 40 := ⟨Tryd.underlying37, by decide, by decide, .agg #[.int .i64 0, .int .i64 0, .int .i64 0, .string .empty], by kernel_rfl, by kernel_rfl⟩
instance : Sc Tryd.prog 39 := ⟨_, Tryd.underlying39, rfl, by kernel_rfl⟩
instance : ZeroT Tryd.prog 39 [.nilFunc] := ⟨.nilFunc, by kernel_rfl, .one rfl⟩
instance : Sc Tryd.prog 40 := ⟨_, Tryd.underlying40, rfl, by kernel_rfl⟩
instance : ZeroT Tryd.prog 40 [.nilFunc] := ⟨.nilFunc, by kernel_rfl, .one rfl⟩
instance : Sc Tryd.prog 41 := ⟨_, Tryd.underlying41, rfl, by kernel_rfl⟩
instance : ZeroT Tryd.prog 41 [.nilFunc] := ⟨.nilFunc, by kernel_rfl, .one rfl⟩
instance : Sc Tryd.prog 42 := ⟨_, Tryd.underlying42, rfl, by kernel_rfl⟩
instance : ZeroT Tryd.prog 42 [.nilFunc] := ⟨.nilFunc, by kernel_rfl, .one rfl⟩
instance : Sc Tryd.prog 43 := ⟨_, Tryd.underlying43, rfl, by kernel_rfl⟩
instance : ZeroT Tryd.prog 43 [.nilFunc] := ⟨.nilFunc, by kernel_rfl, .one rfl⟩
instance : Ag Tryd.prog 44 3 := ⟨_, Tryd.underlying44, rfl, by kernel_rfl⟩
instance : FieldAt Tryd.prog 44 0 0 := ⟨_, _, 0, Tryd.underlying44, rfl, rfl, by kernel_rfl⟩
instance : FieldAt Tryd.prog 44 1 1 := ⟨_, _, 0, Tryd.underlying44, rfl, rfl, by kernel_rfl⟩
instance : FieldAt Tryd.prog 44 2 2 := ⟨_, _, 0, Tryd.underlying44, rfl, rfl, by kernel_rfl⟩
instance : OffsT Tryd.prog 44 [(0, 1), (1, 1), (2, 1)] [.int .i64 0, .int .i64 0, .int .i64 0] := ⟨(([(0, 1), (1, 1), (2, 1)] : List (Nat × Nat)).toArray[·]?), fun _ => by kernel_rfl, fun i p h => by simpa using h⟩
instance : ZeroT Tryd.prog 44 [.int .i64 0, .int .i64 0, .int .i64 0] := ⟨_, show still Tryd.prog (zeroValue 44) = some (.agg (List.toArray [.int .i64 0, .int .i64 0, .int .i64 0])) by kernel_rfl, .agg _⟩
instance : Ag Tryd.prog 45 3 := ⟨_, Tryd.underlying45, rfl, by kernel_rfl⟩
instance : FieldAt Tryd.prog 45 0 0 := ⟨_, _, 0, Tryd.underlying45, rfl, rfl, by kernel_rfl⟩
instance : FieldAt Tryd.prog 45 1 1 := ⟨_, _, 0, Tryd.underlying45, rfl, rfl, by kernel_rfl⟩
instance : FieldAt Tryd.prog 45 2 2 := ⟨_, _, 0, Tryd.underlying45, rfl, rfl, by kernel_rfl⟩
instance : OffsT Tryd.prog 45 [(0, 1), (1, 1), (2, 1)] [.int .i64 0, .int .i64 0, .int .i64 0] := ⟨(([(0, 1), (1, 1), (2, 1)] : List (Nat × Nat)).toArray[·]?), fun _ => by kernel_rfl, fun i p h => by simpa using h⟩
instance : ZeroT Tryd.prog 45 [.int .i64 0, .int .i64 0, .int .i64 0] := ⟨_, show still Tryd.prog (zeroValue 45) = some (.agg (List.toArray [.int .i64 0, .int .i64 0, .int .i64 0])) by kernel_rfl, .agg _⟩
instance : Sc Tryd.prog 46 := ⟨_, Tryd.underlying46, rfl, by kernel_rfl⟩
instance : ZeroT Tryd.prog 46 [.nilFunc] := ⟨.nilFunc, by kernel_rfl, .one rfl⟩
instance : Sc Tryd.prog 47 := ⟨_, Tryd.underlying47, rfl, by kernel_rfl⟩
instance : ZeroT Tryd.prog 47 [.nilFunc] := ⟨.nilFunc, by kernel_rfl, .one rfl⟩
instance : Sc Tryd.prog 48 := ⟨_, Tryd.underlying48, rfl, by kernel_rfl⟩
instance : ZeroT Tryd.prog 48 [.slice none 0 0] := ⟨.slice none 0 0, by kernel_rfl, .one rfl⟩
instance : SliceT Tryd.prog 48 54 4 40 := ⟨Tryd.underlying48, by decide, by decide, .agg #[.string .empty, .string .empty, .bool false, .bool false], by kernel_rfl, by kernel_rfl⟩
instance : Sc Tryd.prog 49 := ⟨_, Tryd.underlying49, rfl, by kernel_rfl⟩
instance : ZeroT Tryd.prog 49 [.nilFunc] := ⟨.nilFunc, by kernel_rfl, .one rfl⟩
instance : Sc Tryd.prog 51 := ⟨_, Tryd.underlying51, rfl, by kernel_rfl⟩
instance : ZeroT Tryd.prog 51 [.nilFunc] := ⟨.nilFunc, by kernel_rfl, .one rfl⟩
instance : Sc Tryd.prog 52 := ⟨_, Tryd.underlying52, rfl, by kernel_rfl⟩
instance : ZeroT Tryd.prog 52 [.nilFunc] := ⟨.nilFunc, by kernel_rfl, .one rfl⟩
instance : Ag Tryd.prog 53 4 := ⟨_, Tryd.underlying53, rfl, by kernel_rfl⟩
instance : FieldAt Tryd.prog 53 0 0 := ⟨_, _, 0, Tryd.underlying53, rfl, rfl, by kernel_rfl⟩
instance : FieldAt Tryd.prog 53 1 1 := ⟨_, _, 0, Tryd.underlying53, rfl, rfl, by kernel_rfl⟩
instance : FieldAt Tryd.prog 53 2 2 := ⟨_, _, 0, Tryd.underlying53, rfl, rfl, by kernel_rfl⟩
instance : FieldAt Tryd.prog 53 3 3 := ⟨_, _, 0, Tryd.underlying53, rfl, rfl, by kernel_rfl⟩
instance : OffsT Tryd.prog 53 [(0, 1), (1, 1), (2, 1), (3, 1)] [.string .empty, .string .empty, .bool false, .bool false] := ⟨(([(0, 1), (1, 1), (2, 1), (3, 1)] : List (Nat × Nat)).toArray[·]?), fun _ => by kernel_rfl, fun i p h => by simpa using h⟩
instance : ZeroT Tryd.prog 53 [.string .empty, .string .empty, .bool false, .bool false] := ⟨_, show still Tryd.prog (zeroValue 53) = some (.agg (List.toArray [.string .empty, .string .empty, .bool false, .bool false])) by kernel_rfl, .agg _⟩
instance : Ag Tryd.prog 54 4 := ⟨_, Tryd.underlying54, rfl, by kernel_rfl⟩
instance : FieldAt Tryd.prog 54 0 0 := ⟨_, _, 0, Tryd.underlying54, rfl, rfl, by kernel_rfl⟩
instance : FieldAt Tryd.prog 54 1 1 := ⟨_, _, 0, Tryd.underlying54, rfl, rfl, by kernel_rfl⟩
instance : FieldAt Tryd.prog 54 2 2 := ⟨_, _, 0, Tryd.underlying54, rfl, rfl, by kernel_rfl⟩
instance : FieldAt Tryd.prog 54 3 3 := ⟨_, _, 0, Tryd.underlying54, rfl, rfl, by kernel_rfl⟩
instance : OffsT Tryd.prog 54 [(0, 1), (1, 1), (2, 1), (3, 1)] [.string .empty, .string .empty, .bool false, .bool false] := ⟨(([(0, 1), (1, 1), (2, 1), (3, 1)] : List (Nat × Nat)).toArray[·]?), fun _ => by kernel_rfl, fun i p h => by simpa using h⟩
instance : ZeroT Tryd.prog 54 [.string .empty, .string .empty, .bool false, .bool false] := ⟨_, show still Tryd.prog (zeroValue 54) = some (.agg (List.toArray [.string .empty, .string .empty, .bool false, .bool false])) by kernel_rfl, .agg _⟩
instance : Sc Tryd.prog 55 := ⟨_, Tryd.underlying55, rfl, by kernel_rfl⟩
instance : ZeroT Tryd.prog 55 [.nilFunc] := ⟨.nilFunc, by kernel_rfl, .one rfl⟩
instance : Sc Tryd.prog 56 := ⟨_, Tryd.underlying56, rfl, by kernel_rfl⟩
instance : ZeroT Tryd.prog 56 [.nilFunc] := ⟨.nilFunc, by kernel_rfl, .one rfl⟩
instance : Sc Tryd.prog 57 := ⟨_, Tryd.underlying57, rfl, by kernel_rfl⟩
instance : ZeroT Tryd.prog 57 [.int .u64 0] := ⟨.int .u64 0, by kernel_rfl, .one rfl⟩
instance : IntT Tryd.prog 57 .u64 := ⟨Tryd.underlying57⟩
instance : Ag Tryd.prog 58 4 := ⟨_, Tryd.underlying58, rfl, by kernel_rfl⟩
instance : ArrT Tryd.prog 58 4 57 1 := ⟨Tryd.underlying58, by kernel_rfl⟩
instance : OffsT Tryd.prog 58 (arrOffs 4 1) [.int .u64 0, .int .u64 0, .int .u64 0, .int .u64 0] := ⟨fun i => some (i * 1, 1), fun _ => by kernel_rfl, arrOffs_at 4 1⟩
instance : ZeroT Tryd.prog 58 [.int .u64 0, .int .u64 0, .int .u64 0, .int .u64 0] := ⟨_, show still Tryd.prog (zeroValue 58) = some (.agg (List.toArray [.int .u64 0, .int .u64 0, .int .u64 0, .int .u64 0])) by kernel_rfl, .agg _⟩
instance : Ag Tryd.prog 59 8 := ⟨_, Tryd.underlying59, rfl, by kernel_rfl⟩
instance : FieldAt Tryd.prog 59 0 0 := ⟨_, _, 3, Tryd.underlying59, rfl, rfl, by kernel_rfl⟩
instance : FieldAt Tryd.prog 59 1 4 := ⟨_, _, 3, Tryd.underlying59, rfl, rfl, by kernel_rfl⟩
instance : OffsT Tryd.prog 59 [(0, 4), (4, 4)] [.int .u64 0, .int .u64 0, .int .u64 0, .int .u64 0, .int .u64 0, .int .u64 0, .int .u64 0, .int .u64 0] := ⟨(([(0, 4), (4, 4)] : List (Nat × Nat)).toArray[·]?), fun _ => by kernel_rfl, fun i p h => by simpa using h⟩
instance : ZeroT Tryd.prog 59 [.int .u64 0, .int .u64 0, .int .u64 0, .int .u64 0, .int .u64 0, .int .u64 0, .int .u64 0, .int .u64 0] := ⟨_, show still Tryd.prog (zeroValue 59) = some (.agg (List.toArray [.int .u64 0, .int .u64 0, .int .u64 0, .int .u64 0, .int .u64 0, .int .u64 0, .int .u64 0, .int .u64 0])) by kernel_rfl, .agg _⟩
instance : Ag Tryd.prog 60 8 := ⟨_, Tryd.underlying60, rfl, by kernel_rfl⟩
instance : FieldAt Tryd.prog 60 0 0 := ⟨_, _, 3, Tryd.underlying60, rfl, rfl, by kernel_rfl⟩
instance : FieldAt Tryd.prog 60 1 4 := ⟨_, _, 3, Tryd.underlying60, rfl, rfl, by kernel_rfl⟩
instance : OffsT Tryd.prog 60 [(0, 4), (4, 4)] [.int .u64 0, .int .u64 0, .int .u64 0, .int .u64 0, .int .u64 0, .int .u64 0, .int .u64 0, .int .u64 0] := ⟨(([(0, 4), (4, 4)] : List (Nat × Nat)).toArray[·]?), fun _ => by kernel_rfl, fun i p h => by simpa using h⟩
instance : ZeroT Tryd.prog 60 [.int .u64 0, .int .u64 0, .int .u64 0, .int .u64 0, .int .u64 0, .int .u64 0, .int .u64 0, .int .u64 0] := ⟨_, show still Tryd.prog (zeroValue 60) = some (.agg (List.toArray [.int .u64 0, .int .u64 0, .int .u64 0, .int .u64 0, .int .u64 0, .int .u64 0, .int .u64 0, .int .u64 0])) by kernel_rfl, .agg _⟩
instance : Ag Tryd.prog 61 5 := ⟨_, Tryd.underlying61, rfl, by kernel_rfl⟩
instance : FieldAt Tryd.prog 61 0 0 := ⟨_, _, 0, Tryd.underlying61, rfl, rfl, by kernel_rfl⟩
instance : FieldAt Tryd.prog 61 1 1 := ⟨_, _, 0, Tryd.underlying61, rfl, rfl, by kernel_rfl⟩
instance : FieldAt Tryd.prog 61 2 2 := ⟨_, _, 0, Tryd.underlying61, rfl, rfl, by kernel_rfl⟩
instance : FieldAt Tryd.prog 61 3 3 := ⟨_, _, 0, Tryd.underlying61, rfl, rfl, by kernel_rfl⟩
instance : FieldAt Tryd.prog 61 4 4 := ⟨_, _, 0, Tryd.underlying61, rfl, rfl, by kernel_rfl⟩
instance : OffsT Tryd.prog 61 [(0, 1), (1, 1), (2, 1), (3, 1), (4, 1)] [.int .i64 0, .int .i64 0, .int .i64 0, .string .empty, .bool false] := ⟨(([(0, 1), (1, 1), (2, 1), (3, 1), (4, 1)] : List (Nat × Nat)).toArray[·]?), fun _ => by kernel_rfl, fun i p h => by simpa using h⟩
instance : ZeroT Tryd.prog 61 [.int .i64 0, .int .i64 0, .int .i64 0, .string .empty, .bool false] := ⟨_, show still Tryd.prog (zeroValue 61) = some (.agg (List.toArray [.int .i64 0, .int .i64 0, .int .i64 0, .string .empty, .bool false])) by kernel_rfl, .agg _⟩
instance : Ag Tryd.prog 62 5 := ⟨_, Tryd.underlying62, rfl, by kernel_rfl⟩
instance : FieldAt Tryd.prog 62 0 0 := ⟨_, _, 0, Tryd.underlying62, rfl, rfl, by kernel_rfl⟩
instance : FieldAt Tryd.prog 62 1 1 := ⟨_, _, 0, Tryd.underlying62, rfl, rfl, by kernel_rfl⟩
instance : FieldAt Tryd.prog 62 2 2 := ⟨_, _, 0, Tryd.underlying62, rfl, rfl, by kernel_rfl⟩
instance : FieldAt Tryd.prog 62 3 3 := ⟨_, _, 0, Tryd.underlying62, rfl, rfl, by kernel_rfl⟩
instance : FieldAt Tryd.prog 62 4 4 := ⟨_, _, 0, Tryd.underlying62, rfl, rfl, by kernel_rfl⟩
instance : OffsT Tryd.prog 62 [(0, 1), (1, 1), (2, 1), (3, 1), (4, 1)] [.int .i64 0, .int .i64 0, .int .i64 0, .string .empty, .bool false] := ⟨(([(0, 1), (1, 1), (2, 1), (3, 1), (4, 1)] : List (Nat × Nat)).toArray[·]?), fun _ => by kernel_rfl, fun i p h => by simpa using h⟩
instance : ZeroT Tryd.prog 62 [.int .i64 0, .int .i64 0, .int .i64 0, .string .empty, .bool false] := ⟨_, show still Tryd.prog (zeroValue 62) = some (.agg (List.toArray [.int .i64 0, .int .i64 0, .int .i64 0, .string .empty, .bool false])) by kernel_rfl, .agg _⟩
instance : Ag Tryd.prog 63 5 := ⟨_, Tryd.underlying63, rfl, by kernel_rfl⟩
instance : FieldAt Tryd.prog 63 0 0 := ⟨_, _, 0, Tryd.underlying63, rfl, rfl, by kernel_rfl⟩
instance : FieldAt Tryd.prog 63 1 1 := ⟨_, _, 0, Tryd.underlying63, rfl, rfl, by kernel_rfl⟩
instance : FieldAt Tryd.prog 63 2 2 := ⟨_, _, 0, Tryd.underlying63, rfl, rfl, by kernel_rfl⟩
instance : FieldAt Tryd.prog 63 3 3 := ⟨_, _, 0, Tryd.underlying63, rfl, rfl, by kernel_rfl⟩
instance : FieldAt Tryd.prog 63 4 4 := ⟨_, _, 0, Tryd.underlying63, rfl, rfl, by kernel_rfl⟩
instance : OffsT Tryd.prog 63 [(0, 1), (1, 1), (2, 1), (3, 1), (4, 1)] [.int .i64 0, .int .i64 0, .string .empty, .string .empty, .string .empty] := ⟨(([(0, 1), (1, 1), (2, 1), (3, 1), (4, 1)] : List (Nat × Nat)).toArray[·]?), fun _ => by kernel_rfl, fun i p h => by simpa using h⟩
instance : ZeroT Tryd.prog 63 [.int .i64 0, .int .i64 0, .string .empty, .string .empty, .string .empty] := ⟨_, show still Tryd.prog (zeroValue 63) = some (.agg (List.toArray [.int .i64 0, .int .i64 0, .string .empty, .string .empty, .string .empty])) by kernel_rfl, .agg _⟩
instance : Ag Tryd.prog 64 5 := ⟨_, Tryd.underlying64, rfl, by kernel_rfl⟩
instance : FieldAt Tryd.prog 64 0 0 := ⟨_, _, 0, Tryd.underlying64, rfl, rfl, by kernel_rfl⟩
instance : FieldAt Tryd.prog 64 1 1 := ⟨_, _, 0, Tryd.underlying64, rfl, rfl, by kernel_rfl⟩
instance : FieldAt Tryd.prog 64 2 2 := ⟨_, _, 0, Tryd.underlying64, rfl, rfl, by kernel_rfl⟩
instance : FieldAt Tryd.prog 64 3 3 := ⟨_, _, 0, Tryd.underlying64, rfl, rfl, by kernel_rfl⟩
instance : FieldAt Tryd.prog 64 4 4 := ⟨_, _, 0, Tryd.underlying64, rfl, rfl, by kernel_rfl⟩
instance : OffsT Tryd.prog 64 [(0, 1), (1, 1), (2, 1), (3, 1), (4, 1)] [.int .i64 0, .int .i64 0, .string .empty, .string .empty, .string .empty] := ⟨(([(0, 1), (1, 1), (2, 1), (3, 1), (4, 1)] : List (Nat × Nat)).toArray[·]?), fun _ => by kernel_rfl, fun i p h => by simpa using h⟩
instance : ZeroT Tryd.prog 64 [.int .i64 0, .int .i64 0, .string .empty, .string .empty, .string .empty] := ⟨_, show still Tryd.prog (zeroValue 64) = some (.agg (List.toArray [.int .i64 0, .int .i64 0, .string .empty, .string .empty, .string .empty])) by kernel_rfl, .agg _⟩
instance : Sc Tryd.prog 65 := ⟨_, Tryd.underlying65, rfl, by kernel_rfl⟩
instance : ZeroT Tryd.prog 65 [.slice none 0 0] := ⟨.slice none 0 0, by kernel_rfl, .one rfl⟩
instance : SliceT Tryd.prog 65 178 4 32 := ⟨Tryd.underlying65, by decide, by decide, .agg #[.int .i64 0, .int .i64 0, .int .i64 0, .int .i64 0], by kernel_rfl, by kernel_rfl⟩
instance : Ag Tryd.prog 66 3 := ⟨_, Tryd.underlying66, rfl, by kernel_rfl⟩
instance : FieldAt Tryd.prog 66 0 0 := ⟨_, _, 0, Tryd.underlying66, rfl, rfl, by kernel_rfl⟩
instance : FieldAt Tryd.prog 66 1 1 := ⟨_, _, 0, Tryd.underlying66, rfl, rfl, by kernel_rfl⟩
instance : FieldAt Tryd.prog 66 2 2 := ⟨_, _, 0, Tryd.underlying66, rfl, rfl, by kernel_rfl⟩
instance : OffsT Tryd.prog 66 [(0, 1), (1, 1), (2, 1)] [.int .i64 0, .int .i64 0, .slice none 0 0] := ⟨(([(0, 1), (1, 1), (2, 1)] : List (Nat × Nat)).toArray[·]?), fun _ => by kernel_rfl, fun i p h => by simpa using h⟩
instance : ZeroT Tryd.prog 66 [.int .i64 0, .int .i64 0, .slice none 0 0] := ⟨_, show still Tryd.prog (zeroValue 66) = some (.agg (List.toArray [.int .i64 0, .int .i64 0, .slice none 0 0])) by kernel_rfl, .agg _⟩
instance : Ag Tryd.prog 67 3 := ⟨_, Tryd.underlying67, rfl, by kernel_rfl⟩
instance : FieldAt Tryd.prog 67 0 0 := ⟨_, _, 0, Tryd.underlying67, rfl, rfl, by kernel_rfl⟩
instance : FieldAt Tryd.prog 67 1 1 := ⟨_, _, 0, Tryd.underlying67, rfl, rfl, by kernel_rfl⟩
instance : FieldAt Tryd.prog 67 2 2 := ⟨_, _, 0, Tryd.underlying67, rfl, rfl, by kernel_rfl⟩
instance : OffsT Tryd.prog 67 [(0, 1), (1, 1), (2, 1)] [.int .i64 0, .int .i64 0, .slice none 0 0] := ⟨(([(0, 1), (1, 1), (2, 1)] : List (Nat × Nat)).toArray[·]?), fun _ => by kernel_rfl, fun i p h => by simpa using h⟩
instance : ZeroT Tryd.prog 67 [.int .i64 0, .int .i64 0, .slice none 0 0] := ⟨_, show still Tryd.prog (zeroValue 67) = some (.agg (List.toArray [.int .i64 0, .int .i64 0, .slice none 0 0])) by kernel_rfl, .agg _⟩
instance : Ag Tryd.prog 68 3 := ⟨_, Tryd.underlying68, rfl, by kernel_rfl⟩
instance : FieldAt Tryd.prog 68 0 0 := ⟨_, _, 0, Tryd.underlying68, rfl, rfl, by kernel_rfl⟩
instance : FieldAt Tryd.prog 68 1 1 := ⟨_, _, 0, Tryd.underlying68, rfl, rfl, by kernel_rfl⟩
instance : FieldAt Tryd.prog 68 2 2 := ⟨_, _, 0, Tryd.underlying68, rfl, rfl, by kernel_rfl⟩
instance : OffsT Tryd.prog 68 [(0, 1), (1, 1), (2, 1)] [.int .i64 0, .int .i64 0, .int .i64 0] := ⟨(([(0, 1), (1, 1), (2, 1)] : List (Nat × Nat)).toArray[·]?), fun _ => by kernel_rfl, fun i p h => by simpa using h⟩
instance : ZeroT Tryd.prog 68 [.int .i64 0, .int .i64 0, .int .i64 0] := ⟨_, show still Tryd.prog (zeroValue 68) = some (.agg (List.toArray [.int .i64 0, .int .i64 0, .int .i64 0])) by kernel_rfl, .agg _⟩
instance : Ag Tryd.prog 69 3 := ⟨_, Tryd.underlying69, rfl, by kernel_rfl⟩
instance : FieldAt Tryd.prog 69 0 0 := ⟨_, _, 0, Tryd.underlying69, rfl, rfl, by kernel_rfl⟩
instance : FieldAt Tryd.prog 69 1 1 := ⟨_, _, 0, Tryd.underlying69, rfl, rfl, by kernel_rfl⟩
instance : FieldAt Tryd.prog 69 2 2 := ⟨_, _, 0, Tryd.underlying69, rfl, rfl, by kernel_rfl⟩
instance : OffsT Tryd.prog 69 [(0, 1), (1, 1), (2, 1)] [.int .i64 0, .int .i64 0, .int .i64 0] := ⟨(([(0, 1), (1, 1), (2, 1)] : List (Nat × Nat)).toArray[·]?), fun _ => by kernel_rfl, fun i p h => by simpa using h⟩
instance : ZeroT Tryd.prog 69 [.int .i64 0, .int .i64 0, .int .i64 0] := ⟨_, show still Tryd.prog (zeroValue 69) = some (.agg (List.toArray [.int .i64 0, .int .i64 0, .int .i64 0])) by kernel_rfl, .agg _⟩
instance : Ag Tryd.prog 70 4 := ⟨_, Tryd.underlying70, rfl, by kernel_rfl⟩
instance : FieldAt Tryd.prog 70 0 0 := ⟨_, _, 3, Tryd.underlying70, rfl, rfl, by kernel_rfl⟩
instance : OffsT Tryd.prog 70 [(0, 4)] [.int .u64 0, .int .u64 0, .int .u64 0, .int .u64 0] := ⟨(([(0, 4)] : List (Nat × Nat)).toArray[·]?), fun _ => by kernel_rfl, fun i p h => by simpa using h⟩
instance : ZeroT Tryd.prog 70 [.int .u64 0, .int .u64 0, .int .u64 0, .int .u64 0] := ⟨_, show still Tryd.prog (zeroValue 70) = some (.agg (List.toArray [.int .u64 0, .int .u64 0, .int .u64 0, .int .u64 0])) by kernel_rfl, .agg _⟩
instance : Ag Tryd.prog 71 4 := ⟨_, Tryd.underlying71, rfl, by kernel_rfl⟩
instance : FieldAt Tryd.prog 71 0 0 := ⟨_, _, 3, Tryd.underlying71, rfl, rfl, by kernel_rfl⟩
instance : OffsT Tryd.prog 71 [(0, 4)] [.int .u64 0, .int .u64 0, .int .u64 0, .int .u64 0] := ⟨(([(0, 4)] : List (Nat × Nat)).toArray[·]?), fun _ => by kernel_rfl, fun i p h => by simpa using h⟩
instance : ZeroT Tryd.prog 71 [.int .u64 0, .int .u64 0, .int .u64 0, .int .u64 0] := ⟨_, show still Tryd.prog (zeroValue 71) = some (.agg (List.toArray [.int .u64 0, .int .u64 0, .int .u64 0, .int .u64 0])) by kernel_rfl, .agg _⟩
instance : Ag Tryd.prog 72 2 := ⟨_, Tryd.underlying72, rfl, by kernel_rfl⟩
instance : ArrT Tryd.prog 72 2 3 1 := ⟨Tryd.underlying72, by kernel_rfl⟩
instance : OffsT Tryd.prog 72 (arrOffs 2 1) [.int .i64 0, .int .i64 0] := ⟨fun i => some (i * 1, 1), fun _ => by kernel_rfl, arrOffs_at 2 1⟩
instance : ZeroT Tryd.prog 72 [.int .i64 0, .int .i64 0] := ⟨_, show still Tryd.prog (zeroValue 72) = some (.agg (List.toArray [.int .i64 0, .int .i64 0])) by kernel_rfl, .agg _⟩
instance : Ag Tryd.prog 73 9 := ⟨_, Tryd.underlying73, rfl, by kernel_rfl⟩
instance : FieldAt Tryd.prog 73 0 0 := ⟨_, _, 0, Tryd.underlying73, rfl, rfl, by kernel_rfl⟩
instance : FieldAt Tryd.prog 73 1 1 := ⟨_, _, 0, Tryd.underlying73, rfl, rfl, by kernel_rfl⟩
instance : FieldAt Tryd.prog 73 2 2 := ⟨_, _, 2, Tryd.underlying73, rfl, rfl, by kernel_rfl⟩
instance : FieldAt Tryd.prog 73 3 5 := ⟨_, _, 0, Tryd.underlying73, rfl, rfl, by kernel_rfl⟩
instance : FieldAt Tryd.prog 73 4 6 := ⟨_, _, 1, Tryd.underlying73, rfl, rfl, by kernel_rfl⟩
instance : FieldAt Tryd.prog 73 5 8 := ⟨_, _, 0, Tryd.underlying73, rfl, rfl, by kernel_rfl⟩
instance : OffsT Tryd.prog 73 [(0, 1), (1, 1), (2, 3), (5, 1), (6, 2), (8, 1)] [.int .i64 0, .int .i64 0, .int .i64 0, .int .i64 0, .int .i64 0, .bool false, .int .i64 0, .int .i64 0, .int .i64 0] := ⟨(([(0, 1), (1, 1), (2, 3), (5, 1), (6, 2), (8, 1)] : List (Nat × Nat)).toArray[·]?), fun _ => by kernel_rfl, fun i p h => by simpa using h⟩
instance : ZeroT Tryd.prog 73 [.int .i64 0, .int .i64 0, .int .i64 0, .int .i64 0, .int .i64 0, .bool false, .int .i64 0, .int .i64 0, .int .i64 0] := ⟨_, show still Tryd.prog (zeroValue 73) = some (.agg (List.toArray [.int .i64 0, .int .i64 0, .int .i64 0, .int .i64 0, .int .i64 0, .bool false, .int .i64 0, .int .i64 0, .int .i64 0])) by kernel_rfl, .agg _⟩
instance : Ag Tryd.prog 74 9 := ⟨_, Tryd.underlying74, rfl, by kernel_rfl⟩
instance : FieldAt Tryd.prog 74 0 0 := ⟨_, _, 0, Tryd.underlying74, rfl, rfl, by kernel_rfl⟩
instance : FieldAt Tryd.prog 74 1 1 := ⟨_, _, 0, Tryd.underlying74, rfl, rfl, by kernel_rfl⟩
instance : FieldAt Tryd.prog 74 2 2 := ⟨_, _, 2, Tryd.underlying74, rfl, rfl, by kernel_rfl⟩
instance : FieldAt Tryd.prog 74 3 5 := ⟨_, _, 0, Tryd.underlying74, rfl, rfl, by kernel_rfl⟩
instance : FieldAt Tryd.prog 74 4 6 := ⟨_, _, 1, Tryd.underlying74, rfl, rfl, by kernel_rfl⟩
instance : FieldAt Tryd.prog 74 5 8 := ⟨_, _, 0, Tryd.underlying74, rfl, rfl, by kernel_rfl⟩
instance : OffsT Tryd.prog 74 [(0, 1), (1, 1), (2, 3), (5, 1), (6, 2), (8, 1)] [.int .i64 0, .int .i64 0, .int .i64 0, .int .i64 0, .int .i64 0, .bool false, .int .i64 0, .int .i64 0, .int .i64 0] := ⟨(([(0, 1), (1, 1), (2, 3), (5, 1), (6, 2), (8, 1)] : List (Nat × Nat)).toArray[·]?), fun _ => by kernel_rfl, fun i p h => by simpa using h⟩
instance : ZeroT Tryd.prog 74 [.int .i64 0, .int .i64 0, .int .i64 0, .int .i64 0, .int .i64 0, .bool false, .int .i64 0, .int .i64 0, .int .i64 0] := ⟨_, show still Tryd.prog (zeroValue 74) = some (.agg (List.toArray [.int .i64 0, .int .i64 0, .int .i64 0, .int .i64 0, .int .i64 0, .bool false, .int .i64 0, .int .i64 0, .int .i64 0])) by kernel_rfl, .agg _⟩
instance : Sc Tryd.prog 75 := ⟨_, Tryd.underlying75, rfl, by kernel_rfl⟩
instance : ZeroT Tryd.prog 75 [.slice none 0 0] := ⟨.slice none 0 0, by kernel_rfl, .one rfl⟩
instance : SliceT Tryd.prog 75 175 1 24 := ⟨Tryd.underlying75, by decide, by decide, .agg #[.slice none 0 0], by kernel_rfl, by kernel_rfl⟩
instance : Ag Tryd.prog 76 33 := ⟨_, Tryd.underlying76, rfl, by kernel_rfl⟩
instance : FieldAt Tryd.prog 76 0 0 := ⟨_, _, 2, Tryd.underlying76, rfl, rfl, by kernel_rfl⟩
instance : FieldAt Tryd.prog 76 1 3 := ⟨_, _, 0, Tryd.underlying76, rfl, rfl, by kernel_rfl⟩
instance : FieldAt Tryd.prog 76 2 4 := ⟨_, _, 0, Tryd.underlying76, rfl, rfl, by kernel_rfl⟩
instance : FieldAt Tryd.prog 76 3 5 := ⟨_, _, 0, Tryd.underlying76, rfl, rfl, by kernel_rfl⟩
instance : FieldAt Tryd.prog 76 4 6 := ⟨_, _, 0, Tryd.underlying76, rfl, rfl, by kernel_rfl⟩
instance : FieldAt Tryd.prog 76 5 7 := ⟨_, _, 0, Tryd.underlying76, rfl, rfl, by kernel_rfl⟩
instance : FieldAt Tryd.prog 76 6 8 := ⟨_, _, 2, Tryd.underlying76, rfl, rfl, by kernel_rfl⟩
instance : FieldAt Tryd.prog 76 7 11 := ⟨_, _, 0, Tryd.underlying76, rfl, rfl, by kernel_rfl⟩
instance : FieldAt Tryd.prog 76 8 12 := ⟨_, _, 3, Tryd.underlying76, rfl, rfl, by kernel_rfl⟩
instance : FieldAt Tryd.prog 76 9 16 := ⟨_, _, 1, Tryd.underlying76, rfl, rfl, by kernel_rfl⟩
instance : FieldAt Tryd.prog 76 10 18 := ⟨_, _, 0, Tryd.underlying76, rfl, rfl, by kernel_rfl⟩
instance : FieldAt Tryd.prog 76 11 19 := ⟨_, _, 8, Tryd.underlying76, rfl, rfl, by kernel_rfl⟩
instance : FieldAt Tryd.prog 76 12 28 := ⟨_, _, 2, Tryd.underlying76, rfl, rfl, by kernel_rfl⟩
instance : FieldAt Tryd.prog 76 13 31 := ⟨_, _, 0, Tryd.underlying76, rfl, rfl, by kernel_rfl⟩
instance : FieldAt Tryd.prog 76 14 32 := ⟨_, _, 0, Tryd.underlying76, rfl, rfl, by kernel_rfl⟩
instance : OffsT Tryd.prog 76 [(0, 3), (3, 1), (4, 1), (5, 1), (6, 1), (7, 1), (8, 3), (11, 1), (12, 4), (16, 2), (18, 1), (19, 9), (28, 3), (31, 1), (32, 1)] [.int .i64 0, .int .i64 0, .slice none 0 0, .int .i64 0, .int .i64 0, .bool false, .int .i64 0, .int .i64 0, .int .i64 0, .int .i64 0, .int .i64 0, .int .i64 0, .int .u64 0, .int .u64 0, .int .u64 0, .int .u64 0, .int .i64 0, .int .i64 0, .int .i64 0, .int .i64 0, .int .i64 0, .int .i64 0, .int .i64 0, .int .i64 0, .bool false, .int .i64 0, .int .i64 0, .int .i64 0, .int .i64 0, .int .i64 0, .slice none 0 0, .string .empty, .slice none 0 0] := ⟨(([(0, 3), (3, 1), (4, 1), (5, 1), (6, 1), (7, 1), (8, 3), (11, 1), (12, 4), (16, 2), (18, 1), (19, 9), (28, 3), (31, 1), (32, 1)] : List (Nat × Nat)).toArray[·]?), fun _ => by kernel_rfl, fun i p h => by simpa using h⟩
instance : ZeroT Tryd.prog 76 [.int .i64 0, .int .i64 0, .slice none 0 0, .int .i64 0, .int .i64 0, .bool false, .int .i64 0, .int .i64 0, .int .i64 0, .int .i64 0, .int .i64 0, .int .i64 0, .int .u64 0, .int .u64 0, .int .u64 0, .int .u64 0, .int .i64 0, .int .i64 0, .int .i64 0, .int .i64 0, .int .i64 0, .int .i64 0, .int .i64 0, .int .i64 0, .bool false, .int .i64 0, .int .i64 0, .int .i64 0, .int .i64 0, .int .i64 0, .slice none 0 0, .string .empty, .slice none 0 0] := ⟨_, show still Tryd.prog (zeroValue 76) = some (.agg (List.toArray [.int .i64 0, .int .i64 0, .slice none 0 0, .int .i64 0, .int .i64 0, .bool false, .int .i64 0, .int .i64 0, .int .i64 0, .int .i64 0, .int .i64 0, .int .i64 0, .int .u64 0, .int .u64 0, .int .u64 0, .int .u64 0, .int .i64 0, .int .i64 0, .int .i64 0, .int .i64 0, .int .i64 0, .int .i64 0, .int .i64 0, .int .i64 0, .bool false, .int .i64 0, .int .i64 0, .int .i64 0, .int .i64 0, .int .i64 0, .slice none 0 0, .string .empty, .slice none 0 0])) by kernel_rfl, .agg _⟩
instance : Ag Tryd.prog 77 33 := ⟨_, Tryd.underlying77, rfl, by kernel_rfl⟩
instance : FieldAt Tryd.prog 77 0 0 := ⟨_, _, 2, Tryd.underlying77, rfl, rfl, by kernel_rfl⟩
instance : FieldAt Tryd.prog 77 1 3 := ⟨_, _, 0, Tryd.underlying77, rfl, rfl, by kernel_rfl⟩
instance : FieldAt Tryd.prog 77 2 4 := ⟨_, _, 0, Tryd.underlying77, rfl, rfl, by kernel_rfl⟩
instance : FieldAt Tryd.prog 77 3 5 := ⟨_, _, 0, Tryd.underlying77, rfl, rfl, by kernel_rfl⟩
instance : FieldAt Tryd.prog 77 4 6 := ⟨_, _, 0, Tryd.underlying77, rfl, rfl, by kernel_rfl⟩
instance : FieldAt Tryd.prog 77 5 7 := ⟨_, _, 0, Tryd.underlying77, rfl, rfl, by kernel_rfl⟩
instance : FieldAt Tryd.prog 77 6 8 := ⟨_, _, 2, Tryd.underlying77, rfl, rfl, by kernel_rfl⟩
instance : FieldAt Tryd.prog 77 7 11 := ⟨_, _, 0, Tryd.underlying77, rfl, rfl, by kernel_rfl⟩
instance : FieldAt Tryd.prog 77 8 12 := ⟨_, _, 3, Tryd.underlying77, rfl, rfl, by kernel_rfl⟩
instance : FieldAt Tryd.prog 77 9 16 := ⟨_, _, 1, Tryd.underlying77, rfl, rfl, by kernel_rfl⟩
instance : FieldAt Tryd.prog 77 10 18 := ⟨_, _, 0, Tryd.underlying77, rfl, rfl, by kernel_rfl⟩
instance : FieldAt Tryd.prog 77 11 19 := ⟨_, _, 8, Tryd.underlying77, rfl, rfl, by kernel_rfl⟩
instance : FieldAt Tryd.prog 77 12 28 := ⟨_, _, 2, Tryd.underlying77, rfl, rfl, by kernel_rfl⟩
instance : FieldAt Tryd.prog 77 13 31 := ⟨_, _, 0, Tryd.underlying77, rfl, rfl, by kernel_rfl⟩
instance : FieldAt Tryd.prog 77 14 32 := ⟨_, _, 0, Tryd.underlying77, rfl, rfl, by kernel_rfl⟩
instance : OffsT Tryd.prog 77 [(0, 3), (3, 1), (4, 1), (5, 1), (6, 1), (7, 1), (8, 3), (11, 1), (12, 4), (16, 2), (18, 1), (19, 9), (28, 3), (31, 1), (32, 1)] [.int .i64 0, .int .i64 0, .slice none 0 0, .int .i64 0, .int .i64 0, .bool false, .int .i64 0, .int .i64 0, .int .i64 0, .int .i64 0, .int .i64 0, .int .i64 0, .int .u64 0, .int .u64 0, .int .u64 0, .int .u64 0, .int .i64 0, .int .i64 0, .int .i64 0, .int .i64 0, .int .i64 0, .int .i64 0, .int .i64 0, .int .i64 0, .bool false, .int .i64 0, .int .i64 0, .int .i64 0, .int .i64 0, .int .i64 0, .slice none 0 0, .string .empty, .slice none 0 0] := ⟨(([(0, 3), (3, 1), (4, 1), (5, 1), (6, 1), (7, 1), (8, 3), (11, 1), (12, 4), (16, 2), (18, 1), (19, 9), (28, 3), (31, 1), (32, 1)] : List (Nat × Nat)).toArray[·]?), fun _ => by kernel_rfl, fun i p h => by simpa using h⟩
instance : ZeroT Tryd.prog 77 [.int .i64 0, .int .i64 0, .slice none 0 0, .int .i64 0, .int .i64 0, .bool false, .int .i64 0, .int .i64 0, .int .i64 0, .int .i64 0, .int .i64 0, .int .i64 0, .int .u64 0, .int .u64 0, .int .u64 0, .int .u64 0, .int .i64 0, .int .i64 0, .int .i64 0, .int .i64 0, .int .i64 0, .int .i64 0, .int .i64 0, .int .i64 0, .bool false, .int .i64 0, .int .i64 0, .int .i64 0, .int .i64 0, .int .i64 0, .slice none 0 0, .string .empty, .slice none 0 0] := ⟨_, show still Tryd.prog (zeroValue 77) = some (.agg (List.toArray [.int .i64 0, .int .i64 0, .slice none 0 0, .int .i64 0, .int .i64 0, .bool false, .int .i64 0, .int .i64 0, .int .i64 0, .int .i64 0, .int .i64 0, .int .i64 0, .int .u64 0, .int .u64 0, .int .u64 0, .int .u64 0, .int .i64 0, .int .i64 0, .int .i64 0, .int .i64 0, .int .i64 0, .int .i64 0, .int .i64 0, .int .i64 0, .bool false, .int .i64 0, .int .i64 0, .int .i64 0, .int .i64 0, .int .i64 0, .slice none 0 0, .string .empty, .slice none 0 0])) by kernel_rfl, .agg _⟩
instance : Ag Tryd.prog 78 256 := ⟨_, Tryd.underlying78, rfl, by kernel_rfl⟩
instance : ArrT Tryd.prog 78 256 5 1 := ⟨Tryd.underlying78, by kernel_rfl⟩
instance : Ag Tryd.prog 79 520 := ⟨_, Tryd.underlying79, rfl, by kernel_rfl⟩
instance : FieldAt Tryd.prog 79 0 0 := ⟨_, _, 255, Tryd.underlying79, rfl, rfl, by kernel_rfl⟩
instance : FieldAt Tryd.prog 79 1 256 := ⟨_, _, 255, Tryd.underlying79, rfl, rfl, by kernel_rfl⟩
instance : FieldAt Tryd.prog 79 2 512 := ⟨_, _, 3, Tryd.underlying79, rfl, rfl, by kernel_rfl⟩
instance : FieldAt Tryd.prog 79 3 516 := ⟨_, _, 3, Tryd.underlying79, rfl, rfl, by kernel_rfl⟩
instance : Ag Tryd.prog 80 520 := ⟨_, Tryd.underlying80, rfl, by kernel_rfl⟩
instance : FieldAt Tryd.prog 80 0 0 := ⟨_, _, 255, Tryd.underlying80, rfl, rfl, by kernel_rfl⟩
instance : FieldAt Tryd.prog 80 1 256 := ⟨_, _, 255, Tryd.underlying80, rfl, rfl, by kernel_rfl⟩
instance : FieldAt Tryd.prog 80 2 512 := ⟨_, _, 3, Tryd.underlying80, rfl, rfl, by kernel_rfl⟩
instance : FieldAt Tryd.prog 80 3 516 := ⟨_, _, 3, Tryd.underlying80, rfl, rfl, by kernel_rfl⟩
instance : Ag Tryd.prog 81 2 := ⟨_, Tryd.underlying81, rfl, by kernel_rfl⟩
instance : FieldAt Tryd.prog 81 0 0 := ⟨_, _, 0, Tryd.underlying81, rfl, rfl, by kernel_rfl⟩
instance : FieldAt Tryd.prog 81 1 1 := ⟨_, _, 0, Tryd.underlying81, rfl, rfl, by kernel_rfl⟩
instance : OffsT Tryd.prog 81 [(0, 1), (1, 1)] [.slice none 0 0, .int .i64 0] := ⟨(([(0, 1), (1, 1)] : List (Nat × Nat)).toArray[·]?), fun _ => by kernel_rfl, fun i p h => by simpa using h⟩
instance : ZeroT Tryd.prog 81 [.slice none 0 0, .int .i64 0] := ⟨_, show still Tryd.prog (zeroValue 81) = some (.agg (List.toArray [.slice none 0 0, .int .i64 0])) by kernel_rfl, .agg _⟩
instance : Ag Tryd.prog 82 2 := ⟨_, Tryd.underlying82, rfl, by kernel_rfl⟩
instance : FieldAt Tryd.prog 82 0 0 := ⟨_, _, 0, Tryd.underlying82, rfl, rfl, by kernel_rfl⟩
instance : FieldAt Tryd.prog 82 1 1 := ⟨_, _, 0, Tryd.underlying82, rfl, rfl, by kernel_rfl⟩
instance : OffsT Tryd.prog 82 [(0, 1), (1, 1)] [.slice none 0 0, .int .i64 0] := ⟨(([(0, 1), (1, 1)] : List (Nat × Nat)).toArray[·]?), fun _ => by kernel_rfl, fun i p h => by simpa using h⟩
instance : ZeroT Tryd.prog 82 [.slice none 0 0, .int .i64 0] := ⟨_, show still Tryd.prog (zeroValue 82) = some (.agg (List.toArray [.slice none 0 0, .int .i64 0])) by kernel_rfl, .agg _⟩
instance : Ag Tryd.prog 83 19 := ⟨_, Tryd.underlying83, rfl, by kernel_rfl⟩
instance : ArrT Tryd.prog 83 19 5 1 := ⟨Tryd.underlying83, by kernel_rfl⟩
instance : OffsT Tryd.prog 83 (arrOffs 19 1) [.int .u8 0, .int .u8 0, .int .u8 0, .int .u8 0, .int .u8 0, .int .u8 0, .int .u8 0, .int .u8 0, .int .u8 0, .int .u8 0, .int .u8 0, .int .u8 0, .int .u8 0, .int .u8 0, .int .u8 0, .int .u8 0, .int .u8 0, .int .u8 0, .int .u8 0] := ⟨fun i => some (i * 1, 1), fun _ => by kernel_rfl, arrOffs_at 19 1⟩
instance : ZeroT Tryd.prog 83 [.int .u8 0, .int .u8 0, .int .u8 0, .int .u8 0, .int .u8 0, .int .u8 0, .int .u8 0, .int .u8 0, .int .u8 0, .int .u8 0, .int .u8 0, .int .u8 0, .int .u8 0, .int .u8 0, .int .u8 0, .int .u8 0, .int .u8 0, .int .u8 0, .int .u8 0] := ⟨_, show still Tryd.prog (zeroValue 83) = some (.agg (List.toArray [.int .u8 0, .int .u8 0, .int .u8 0, .int .u8 0, .int .u8 0, .int .u8 0, .int .u8 0, .int .u8 0, .int .u8 0, .int .u8 0, .int .u8 0, .int .u8 0, .int .u8 0, .int .u8 0, .int .u8 0, .int .u8 0, .int .u8 0, .int .u8 0, .int .u8 0])) by kernel_rfl, .agg _⟩
instance : Ag Tryd.prog 84 38 := ⟨_, Tryd.underlying84, rfl, by kernel_rfl⟩
instance : FieldAt Tryd.prog 84 0 0 := ⟨_, _, 18, Tryd.underlying84, rfl, rfl, by kernel_rfl⟩
instance : FieldAt Tryd.prog 84 1 19 := ⟨_, _, 18, Tryd.underlying84, rfl, rfl, by kernel_rfl⟩
instance : OffsT Tryd.prog 84 [(0, 19), (19, 19)] [.int .u8 0, .int .u8 0, .int .u8 0, .int .u8 0, .int .u8 0, .int .u8 0, .int .u8 0, .int .u8 0, .int .u8 0, .int .u8 0, .int .u8 0, .int .u8 0, .int .u8 0, .int .u8 0, .int .u8 0, .int .u8 0, .int .u8 0, .int .u8 0, .int .u8 0, .int .u8 0, .int .u8 0, .int .u8 0, .int .u8 0, .int .u8 0, .int .u8 0, .int .u8 0, .int .u8 0, .int .u8 0, .int .u8 0, .int .u8 0, .int .u8 0, .int .u8 0, .int .u8 0, .int .u8 0, .int .u8 0, .int .u8 0, .int .u8 0, .int .u8 0] := ⟨(([(0, 19), (19, 19)] : List (Nat × Nat)).toArray[·]?), fun _ => by kernel_rfl, fun i p h => by simpa using h⟩
instance : ZeroT Tryd.prog 84 [.int .u8 0, .int .u8 0, .int .u8 0, .int .u8 0, .int .u8 0, .int .u8 0, .int .u8 0, .int .u8 0, .int .u8 0, .int .u8 0, .int .u8 0, .int .u8 0, .int .u8 0, .int .u8 0, .int .u8 0, .int .u8 0, .int .u8 0, .int .u8 0, .int .u8 0, .int .u8 0, .int .u8 0, .int .u8 0, .int .u8 0, .int .u8 0, .int .u8 0, .int .u8 0, .int .u8 0, .int .u8 0, .int .u8 0, .int .u8 0, .int .u8 0, .int .u8 0, .int .u8 0, .int .u8 0, .int .u8 0, .int .u8 0, .int .u8 0, .int .u8 0] := ⟨_, show still Tryd.prog (zeroValue 84) = some (.agg (List.toArray [.int .u8 0, .int .u8 0, .int .u8 0, .int .u8 0, .int .u8 0, .int .u8 0, .int .u8 0, .int .u8 0, .int .u8 0, .int .u8 0, .int .u8 0, .int .u8 0, .int .u8 0, .int .u8 0, .int .u8 0, .int .u8 0, .int .u8 0, .int .u8 0, .int .u8 0, .int .u8 0, .int .u8 0, .int .u8 0, .int .u8 0, .int .u8 0, .int .u8 0, .int .u8 0, .int .u8 0, .int .u8 0, .int .u8 0, .int .u8 0, .int .u8 0, .int .u8 0, .int .u8 0, .int .u8 0, .int .u8 0, .int .u8 0, .int .u8 0, .int .u8 0])) by kernel_rfl, .agg _⟩
instance : Ag Tryd.prog 85 38 := ⟨_, Tryd.underlying85, rfl, by kernel_rfl⟩
instance : FieldAt Tryd.prog 85 0 0 := ⟨_, _, 18, Tryd.underlying85, rfl, rfl, by kernel_rfl⟩
instance : FieldAt Tryd.prog 85 1 19 := ⟨_, _, 18, Tryd.underlying85, rfl, rfl, by kernel_rfl⟩
instance : OffsT Tryd.prog 85 [(0, 19), (19, 19)] [.int .u8 0, .int .u8 0, .int .u8 0, .int .u8 0, .int .u8 0, .int .u8 0, .int .u8 0, .int .u8 0, .int .u8 0, .int .u8 0, .int .u8 0, .int .u8 0, .int .u8 0, .int .u8 0, .int .u8 0, .int .u8 0, .int .u8 0, .int .u8 0, .int .u8 0, .int .u8 0, .int .u8 0, .int .u8 0, .int .u8 0, .int .u8 0, .int .u8 0, .int .u8 0, .int .u8 0, .int .u8 0, .int .u8 0, .int .u8 0, .int .u8 0, .int .u8 0, .int .u8 0, .int .u8 0, .int .u8 0, .int .u8 0, .int .u8 0, .int .u8 0] := ⟨(([(0, 19), (19, 19)] : List (Nat × Nat)).toArray[·]?), fun _ => by kernel_rfl, fun i p h => by simpa using h⟩
instance : ZeroT Tryd.prog 85 [.int .u8 0, .int .u8 0, .int .u8 0, .int .u8 0, .int .u8 0, .int .u8 0, .int .u8 0, .int .u8 0, .int .u8 0, .int .u8 0, .int .u8 0, .int .u8 0, .int .u8 0, .int .u8 0, .int .u8 0, .int .u8 0, .int .u8 0, .int .u8 0, .int .u8 0, .int .u8 0, .int .u8 0, .int .u8 0, .int .u8 0, .int .u8 0, .int .u8 0, .int .u8 0, .int .u8 0, .int .u8 0, .int .u8 0, .int .u8 0, .int .u8 0, .int .u8 0, .int .u8 0, .int .u8 0, .int .u8 0, .int .u8 0, .int .u8 0, .int .u8 0] := ⟨_, show still Tryd.prog (zeroValue 85) = some (.agg (List.toArray [.int .u8 0, .int .u8 0, .int .u8 0, .int .u8 0, .int .u8 0, .int .u8 0, .int .u8 0, .int .u8 0, .int .u8 0, .int .u8 0, .int .u8 0, .int .u8 0, .int .u8 0, .int .u8 0, .int .u8 0, .int .u8 0, .int .u8 0, .int .u8 0, .int .u8 0, .int .u8 0, .int .u8 0, .int .u8 0, .int .u8 0, .int .u8 0, .int .u8 0, .int .u8 0, .int .u8 0, .int .u8 0, .int .u8 0, .int .u8 0, .int .u8 0, .int .u8 0, .int .u8 0, .int .u8 0, .int .u8 0, .int .u8 0, .int .u8 0, .int .u8 0])) by kernel_rfl, .agg _⟩
instance : Ag Tryd.prog 86 4 := ⟨_, Tryd.underlying86, rfl, by kernel_rfl⟩
instance : FieldAt Tryd.prog 86 0 0 := ⟨_, _, 3, Tryd.underlying86, rfl, rfl, by kernel_rfl⟩
instance : OffsT Tryd.prog 86 [(0, 4)] [.int .u64 0, .int .u64 0, .int .u64 0, .int .u64 0] := ⟨(([(0, 4)] : List (Nat × Nat)).toArray[·]?), fun _ => by kernel_rfl, fun i p h => by simpa using h⟩
instance : ZeroT Tryd.prog 86 [.int .u64 0, .int .u64 0, .int .u64 0, .int .u64 0] := ⟨_, show still Tryd.prog (zeroValue 86) = some (.agg (List.toArray [.int .u64 0, .int .u64 0, .int .u64 0, .int .u64 0])) by kernel_rfl, .agg _⟩
instance : Ag Tryd.prog 87 2 := ⟨_, Tryd.underlying87, rfl, by kernel_rfl⟩
instance : FieldAt Tryd.prog 87 0 0 := ⟨_, _, 0, Tryd.underlying87, rfl, rfl, by kernel_rfl⟩
instance : FieldAt Tryd.prog 87 1 1 := ⟨_, _, 0, Tryd.underlying87, rfl, rfl, by kernel_rfl⟩
instance : OffsT Tryd.prog 87 [(0, 1), (1, 1)] [.string .empty, .bool false] := ⟨(([(0, 1), (1, 1)] : List (Nat × Nat)).toArray[·]?), fun _ => by kernel_rfl, fun i p h => by simpa using h⟩
instance : ZeroT Tryd.prog 87 [.string .empty, .bool false] := ⟨_, show still Tryd.prog (zeroValue 87) = some (.agg (List.toArray [.string .empty, .bool false])) by kernel_rfl, .agg _⟩
instance : Ag Tryd.prog 88 2 := ⟨_, Tryd.underlying88, rfl, by kernel_rfl⟩
instance : FieldAt Tryd.prog 88 0 0 := ⟨_, _, 0, Tryd.underlying88, rfl, rfl, by kernel_rfl⟩
instance : FieldAt Tryd.prog 88 1 1 := ⟨_, _, 0, Tryd.underlying88, rfl, rfl, by kernel_rfl⟩
instance : OffsT Tryd.prog 88 [(0, 1), (1, 1)] [.string .empty, .bool false] := ⟨(([(0, 1), (1, 1)] : List (Nat × Nat)).toArray[·]?), fun _ => by kernel_rfl, fun i p h => by simpa using h⟩
instance : ZeroT Tryd.prog 88 [.string .empty, .bool false] := ⟨_, show still Tryd.prog (zeroValue 88) = some (.agg (List.toArray [.string .empty, .bool false])) by kernel_rfl, .agg _⟩
instance : Ag Tryd.prog 89 613 := ⟨_, Tryd.underlying89, rfl, by kernel_rfl⟩
instance : FieldAt Tryd.prog 89 0 0 := ⟨_, _, 4, Tryd.underlying89, rfl, rfl, by kernel_rfl⟩
instance : FieldAt Tryd.prog 89 1 5 := ⟨_, _, 0, Tryd.underlying89, rfl, rfl, by kernel_rfl⟩
instance : FieldAt Tryd.prog 89 2 6 := ⟨_, _, 0, Tryd.underlying89, rfl, rfl, by kernel_rfl⟩
instance : FieldAt Tryd.prog 89 3 7 := ⟨_, _, 4, Tryd.underlying89, rfl, rfl, by kernel_rfl⟩
instance : FieldAt Tryd.prog 89 4 12 := ⟨_, _, 32, Tryd.underlying89, rfl, rfl, by kernel_rfl⟩
instance : FieldAt Tryd.prog 89 5 45 := ⟨_, _, 519, Tryd.underlying89, rfl, rfl, by kernel_rfl⟩
instance : FieldAt Tryd.prog 89 6 565 := ⟨_, _, 1, Tryd.underlying89, rfl, rfl, by kernel_rfl⟩
instance : FieldAt Tryd.prog 89 7 567 := ⟨_, _, 0, Tryd.underlying89, rfl, rfl, by kernel_rfl⟩
instance : FieldAt Tryd.prog 89 8 568 := ⟨_, _, 37, Tryd.underlying89, rfl, rfl, by kernel_rfl⟩
instance : FieldAt Tryd.prog 89 9 606 := ⟨_, _, 3, Tryd.underlying89, rfl, rfl, by kernel_rfl⟩
instance : FieldAt Tryd.prog 89 10 610 := ⟨_, _, 1, Tryd.underlying89, rfl, rfl, by kernel_rfl⟩
instance : FieldAt Tryd.prog 89 11 612 := ⟨_, _, 0, Tryd.underlying89, rfl, rfl, by kernel_rfl⟩
instance : Ag Tryd.prog 90 613 := ⟨_, Tryd.underlying90, rfl, by kernel_rfl⟩
instance : FieldAt Tryd.prog 90 0 0 := ⟨_, _, 4, Tryd.underlying90, rfl, rfl, by kernel_rfl⟩
instance : FieldAt Tryd.prog 90 1 5 := ⟨_, _, 0, Tryd.underlying90, rfl, rfl, by kernel_rfl⟩
instance : FieldAt Tryd.prog 90 2 6 := ⟨_, _, 0, Tryd.underlying90, rfl, rfl, by kernel_rfl⟩
instance : FieldAt Tryd.prog 90 3 7 := ⟨_, _, 4, Tryd.underlying90, rfl, rfl, by kernel_rfl⟩
instance : FieldAt Tryd.prog 90 4 12 := ⟨_, _, 32, Tryd.underlying90, rfl, rfl, by kernel_rfl⟩
instance : FieldAt Tryd.prog 90 5 45 := ⟨_, _, 519, Tryd.underlying90, rfl, rfl, by kernel_rfl⟩
instance : FieldAt Tryd.prog 90 6 565 := ⟨_, _, 1, Tryd.underlying90, rfl, rfl, by kernel_rfl⟩
instance : FieldAt Tryd.prog 90 7 567 := ⟨_, _, 0, Tryd.underlying90, rfl, rfl, by kernel_rfl⟩
instance : FieldAt Tryd.prog 90 8 568 := ⟨_, _, 37, Tryd.underlying90, rfl, rfl, by kernel_rfl⟩
instance : FieldAt Tryd.prog 90 9 606 := ⟨_, _, 3, Tryd.underlying90, rfl, rfl, by kernel_rfl⟩
instance : FieldAt Tryd.prog 90 10 610 := ⟨_, _, 1, Tryd.underlying90, rfl, rfl, by kernel_rfl⟩
instance : FieldAt Tryd.prog 90 11 612 := ⟨_, _, 0, Tryd.underlying90, rfl, rfl, by kernel_rfl⟩
instance : Sc Tryd.prog 92 := ⟨_, Tryd.underlying92, rfl, by kernel_rfl⟩
instance : ZeroT Tryd.prog 92 [.nilFunc] := ⟨.nilFunc, by kernel_rfl, .one rfl⟩
instance : Sc Tryd.prog 93 := ⟨_, Tryd.underlying93, rfl, by kernel_rfl⟩
instance : ZeroT Tryd.prog 93 [.nilFunc] := ⟨.nilFunc, by kernel_rfl, .one rfl⟩
instance : Sc Tryd.prog 94 := ⟨_, Tryd.underlying94, rfl, by kernel_rfl⟩
instance : ZeroT Tryd.prog 94 [.nilFunc] := ⟨.nilFunc, by kernel_rfl, .one rfl⟩
instance : Sc Tryd.prog 96 := ⟨_, Tryd.underlying96, rfl, by kernel_rfl⟩
instance : ZeroT Tryd.prog 96 [.nilFunc] := ⟨.nilFunc, by kernel_rfl, .one rfl⟩
instance : Sc Tryd.prog 97 := ⟨_, Tryd.underlying97, rfl, by kernel_rfl⟩
instance : ZeroT Tryd.prog 97 [.nilFunc] := ⟨.nilFunc, by kernel_rfl, .one rfl⟩
instance : Sc Tryd.prog 98 := ⟨_, Tryd.underlying98, rfl, by kernel_rfl⟩
instance : ZeroT Tryd.prog 98 [.nilFunc] := ⟨.nilFunc, by kernel_rfl, .one rfl⟩
instance : Sc Tryd.prog 99 := ⟨_, Tryd.underlying99, rfl, by kernel_rfl⟩
instance : ZeroT Tryd.prog 99 [.nilFunc] := ⟨.nilFunc, by kernel_rfl, .one rfl⟩
instance : Sc Tryd.prog 101 := ⟨_, Tryd.underlying101, rfl, by kernel_rfl⟩
instance : ZeroT Tryd.prog 101 [.nilFunc] := ⟨.nilFunc, by kernel_rfl, .one rfl⟩
instance : Sc Tryd.prog 102 := ⟨_, Tryd.underlying102, rfl, by kernel_rfl⟩
instance : ZeroT Tryd.prog 102 [.nilFunc] := ⟨.nilFunc, by kernel_rfl, .one rfl⟩
instance : Sc Tryd.prog 103 := ⟨_, Tryd.underlying103, rfl, by kernel_rfl⟩
instance : ZeroT Tryd.prog 103 [.nilFunc] := ⟨.nilFunc, by kernel_rfl, .one rfl⟩
instance : Sc Tryd.prog 105 := ⟨_, Tryd.underlying105, rfl, by kernel_rfl⟩
instance : ZeroT Tryd.prog 105 [.nilFunc] := ⟨.nilFunc, by kernel_rfl, .one rfl⟩
instance : Sc Tryd.prog 106 := ⟨_, Tryd.underlying106, rfl, by kernel_rfl⟩
instance : ZeroT Tryd.prog 106 [.nilFunc] := ⟨.nilFunc, by kernel_rfl, .one rfl⟩
instance : Sc Tryd.prog 107 := ⟨_, Tryd.underlying107, rfl, by kernel_rfl⟩
instance : ZeroT Tryd.prog 107 [.nilFunc] := ⟨.nilFunc, by kernel_rfl, .one rfl⟩
instance : Sc Tryd.prog 109 := ⟨_, Tryd.underlying109, rfl, by kernel_rfl⟩
instance : ZeroT Tryd.prog 109 [.nilFunc] := ⟨.nilFunc, by kernel_rfl, .one rfl⟩
instance : Sc Tryd.prog 111 := ⟨_, Tryd.underlying111, rfl, by kernel_rfl⟩
instance : ZeroT Tryd.prog 111 [.nilFunc] := ⟨.nilFunc, by kernel_rfl, .one rfl⟩
instance : Sc Tryd.prog 112 := ⟨_, Tryd.underlying112, rfl, by kernel_rfl⟩
instance : ZeroT Tryd.prog 112 [.nilFunc] := ⟨.nilFunc, by kernel_rfl, .one rfl⟩
instance : Sc Tryd.prog 113 := ⟨_, Tryd.underlying113, rfl, by kernel_rfl⟩
instance : ZeroT Tryd.prog 113 [.nilFunc] := ⟨.nilFunc, by kernel_rfl, .one rfl⟩
instance : Sc Tryd.prog 114 := ⟨_, Tryd.underlying114, rfl, by kernel_rfl⟩
instance : ZeroT Tryd.prog 114 [.nilFunc] := ⟨.nilFunc, by kernel_rfl, .one rfl⟩
instance : Sc Tryd.prog 115 := ⟨_, Tryd.underlying115, rfl, by kernel_rfl⟩
instance : ZeroT Tryd.prog 115 [.nilFunc] := ⟨.nilFunc, by kernel_rfl, .one rfl⟩
instance : Sc Tryd.prog 116 := ⟨_, Tryd.underlying116, rfl, by kernel_rfl⟩
instance : ZeroT Tryd.prog 116 [.nilFunc] := ⟨.nilFunc, by kernel_rfl, .one rfl⟩
instance : Sc Tryd.prog 117 := ⟨_, Tryd.underlying117, rfl, by kernel_rfl⟩
instance : ZeroT Tryd.prog 117 [.slice none 0 0] := ⟨.slice none 0 0, by kernel_rfl, .one rfl⟩
instance : SliceT Tryd.prog 117 5 1 1 := ⟨Tryd.underlying117, by decide, by decide, .int .u8 0, by kernel_rfl, by kernel_rfl⟩
instance : Sc Tryd.prog 118 := ⟨_, Tryd.underlying118, rfl, by kernel_rfl⟩
instance : ZeroT Tryd.prog 118 [.nilFunc] := ⟨.nilFunc, by kernel_rfl, .one rfl⟩
instance : Sc Tryd.prog 119 := ⟨_, Tryd.underlying119, rfl, by kernel_rfl⟩
instance : ZeroT Tryd.prog 119 [.nilFunc] := ⟨.nilFunc, by kernel_rfl, .one rfl⟩
instance : Sc Tryd.prog 120 := ⟨_, Tryd.underlying120, rfl, by kernel_rfl⟩
instance : ZeroT Tryd.prog 120 [.nilFunc] := ⟨.nilFunc, by kernel_rfl, .one rfl⟩
instance : Sc Tryd.prog 121 := ⟨_, Tryd.underlying121, rfl, by kernel_rfl⟩
instance : ZeroT Tryd.prog 121 [.nilFunc] := ⟨.nilFunc, by kernel_rfl, .one rfl⟩
instance : Ag Tryd.prog 122 4 := ⟨_, Tryd.underlying122, rfl, by kernel_rfl⟩
instance : ArrT Tryd.prog 122 4 3 1 := ⟨Tryd.underlying122, by kernel_rfl⟩
instance : OffsT Tryd.prog 122 (arrOffs 4 1) [.int .i64 0, .int .i64 0, .int .i64 0, .int .i64 0] := ⟨fun i => some (i * 1, 1), fun _ => by kernel_rfl, arrOffs_at 4 1⟩
instance : ZeroT Tryd.prog 122 [.int .i64 0, .int .i64 0, .int .i64 0, .int .i64 0] := ⟨_, show still Tryd.prog (zeroValue 122) = some (.agg (List.toArray [.int .i64 0, .int .i64 0, .int .i64 0, .int .i64 0])) by kernel_rfl, .agg _⟩
instance : Ag Tryd.prog 123 8 := ⟨_, Tryd.underlying123, rfl, by kernel_rfl⟩
instance : ArrT Tryd.prog 123 8 3 1 := ⟨Tryd.underlying123, by kernel_rfl⟩
instance : OffsT Tryd.prog 123 (arrOffs 8 1) [.int .i64 0, .int .i64 0, .int .i64 0, .int .i64 0, .int .i64 0, .int .i64 0, .int .i64 0, .int .i64 0] := ⟨fun i => some (i * 1, 1), fun _ => by kernel_rfl, arrOffs_at 8 1⟩
instance : ZeroT Tryd.prog 123 [.int .i64 0, .int .i64 0, .int .i64 0, .int .i64 0, .int .i64 0, .int .i64 0, .int .i64 0, .int .i64 0] := ⟨_, show still Tryd.prog (zeroValue 123) = some (.agg (List.toArray [.int .i64 0, .int .i64 0, .int .i64 0, .int .i64 0, .int .i64 0, .int .i64 0, .int .i64 0, .int .i64 0])) by kernel_rfl, .agg _⟩
instance : Sc Tryd.prog 124 := ⟨_, Tryd.underlying124, rfl, by kernel_rfl⟩
instance : ZeroT Tryd.prog 124 [.nilFunc] := ⟨.nilFunc, by kernel_rfl, .one rfl⟩
instance : Sc Tryd.prog 125 := ⟨_, Tryd.underlying125, rfl, by kernel_rfl⟩
instance : ZeroT Tryd.prog 125 [.nilFunc] := ⟨.nilFunc, by kernel_rfl, .one rfl⟩
instance : Sc Tryd.prog 126 := ⟨_, Tryd.underlying126, rfl, by kernel_rfl⟩
instance : ZeroT Tryd.prog 126 [.nilFunc] := ⟨.nilFunc, by kernel_rfl, .one rfl⟩
instance : Sc Tryd.prog 127 := ⟨_, Tryd.underlying127, rfl, by kernel_rfl⟩
instance : ZeroT Tryd.prog 127 [.nilFunc] := ⟨.nilFunc, by kernel_rfl, .one rfl⟩
instance : Sc Tryd.prog 128 := ⟨_, Tryd.underlying128, rfl, by kernel_rfl⟩
instance : ZeroT Tryd.prog 128 [.nilFunc] := ⟨.nilFunc, by kernel_rfl, .one rfl⟩
instance : Sc Tryd.prog 129 := ⟨_, Tryd.underlying129, rfl, by kernel_rfl⟩
instance : ZeroT Tryd.prog 129 [.nilFunc] := ⟨.nilFunc, by kernel_rfl, .one rfl⟩
instance : Sc Tryd.prog 131 := ⟨_, Tryd.underlying131, rfl, by kernel_rfl⟩
instance : ZeroT Tryd.prog 131 [.nilFunc] := ⟨.nilFunc, by kernel_rfl, .one rfl⟩
instance : Sc Tryd.prog 133 := ⟨_, Tryd.underlying133, rfl, by kernel_rfl⟩
instance : ZeroT Tryd.prog 133 [.nilFunc] := ⟨.nilFunc, by kernel_rfl, .one rfl⟩
instance : Sc Tryd.prog 134 := ⟨_, Tryd.underlying134, rfl, by kernel_rfl⟩
instance : ZeroT Tryd.prog 134 [.nilFunc] := ⟨.nilFunc, by kernel_rfl, .one rfl⟩
instance : Sc Tryd.prog 135 := ⟨_, Tryd.underlying135, rfl, by kernel_rfl⟩
instance : ZeroT Tryd.prog 135 [.nilFunc] := ⟨.nilFunc, by kernel_rfl, .one rfl⟩
instance : Sc Tryd.prog 136 := ⟨_, Tryd.underlying136, rfl, by kernel_rfl⟩
instance : ZeroT Tryd.prog 136 [.nilFunc] := ⟨.nilFunc, by kernel_rfl, .one rfl⟩
instance : Sc Tryd.prog 138 := ⟨_, Tryd.underlying138, rfl, by kernel_rfl⟩
instance : ZeroT Tryd.prog 138 [.nilFunc] := ⟨.nilFunc, by kernel_rfl, .one rfl⟩
instance : Sc Tryd.prog 139 := ⟨_, Tryd.underlying139, rfl, by kernel_rfl⟩
instance : ZeroT Tryd.prog 139 [.nilFunc] := ⟨.nilFunc, by kernel_rfl, .one rfl⟩
instance : Sc Tryd.prog 140 := ⟨_, Tryd.underlying140, rfl, by kernel_rfl⟩
instance : ZeroT Tryd.prog 140 [.nilFunc] := ⟨.nilFunc, by kernel_rfl, .one rfl⟩
instance : Sc Tryd.prog 141 := ⟨_, Tryd.underlying141, rfl, by kernel_rfl⟩
instance : ZeroT Tryd.prog 141 [.nilFunc] := ⟨.nilFunc, by kernel_rfl, .one rfl⟩
instance : Sc Tryd.prog 142 := ⟨_, Tryd.underlying142, rfl, by kernel_rfl⟩
instance : ZeroT Tryd.prog 142 [.map none] := ⟨.map none, by kernel_rfl, .one rfl⟩
instance : Sc Tryd.prog 143 := ⟨_, Tryd.underlying143, rfl, by kernel_rfl⟩
instance : ZeroT Tryd.prog 143 [.nilFunc] := ⟨.nilFunc, by kernel_rfl, .one rfl⟩
instance : Sc Tryd.prog 144 := ⟨_, Tryd.underlying144, rfl, by kernel_rfl⟩
instance : ZeroT Tryd.prog 144 [.nilFunc] := ⟨.nilFunc, by kernel_rfl, .one rfl⟩
instance : Sc Tryd.prog 145 := ⟨_, Tryd.underlying145, rfl, by kernel_rfl⟩
instance : ZeroT Tryd.prog 145 [.pointer none] := ⟨.pointer none, by kernel_rfl, .one rfl⟩
instance : Ag Tryd.prog 146 46 := ⟨_, Tryd.underlying146, rfl, by kernel_rfl⟩
instance : FieldAt Tryd.prog 146 0 0 := ⟨_, _, 0, Tryd.underlying146, rfl, rfl, by kernel_rfl⟩
instance : FieldAt Tryd.prog 146 1 1 := ⟨_, _, 0, Tryd.underlying146, rfl, rfl, by kernel_rfl⟩
instance : FieldAt Tryd.prog 146 2 2 := ⟨_, _, 37, Tryd.underlying146, rfl, rfl, by kernel_rfl⟩
instance : FieldAt Tryd.prog 146 3 40 := ⟨_, _, 3, Tryd.underlying146, rfl, rfl, by kernel_rfl⟩
instance : FieldAt Tryd.prog 146 4 44 := ⟨_, _, 0, Tryd.underlying146, rfl, rfl, by kernel_rfl⟩
instance : FieldAt Tryd.prog 146 5 45 := ⟨_, _, 0, Tryd.underlying146, rfl, rfl, by kernel_rfl⟩
instance : Ag Tryd.prog 147 46 := ⟨_, Tryd.underlying147, rfl, by kernel_rfl⟩
instance : FieldAt Tryd.prog 147 0 0 := ⟨_, _, 0, Tryd.underlying147, rfl, rfl, by kernel_rfl⟩
instance : FieldAt Tryd.prog 147 1 1 := ⟨_, _, 0, Tryd.underlying147, rfl, rfl, by kernel_rfl⟩
instance : FieldAt Tryd.prog 147 2 2 := ⟨_, _, 37, Tryd.underlying147, rfl, rfl, by kernel_rfl⟩
instance : FieldAt Tryd.prog 147 3 40 := ⟨_, _, 3, Tryd.underlying147, rfl, rfl, by kernel_rfl⟩
instance : FieldAt Tryd.prog 147 4 44 := ⟨_, _, 0, Tryd.underlying147, rfl, rfl, by kernel_rfl⟩
instance : FieldAt Tryd.prog 147 5 45 := ⟨_, _, 0, Tryd.underlying147, rfl, rfl, by kernel_rfl⟩
instance : Sc Tryd.prog 148 := ⟨_, Tryd.underlying148, rfl, by kernel_rfl⟩
instance : ZeroT Tryd.prog 148 [.nilFunc] := ⟨.nilFunc, by kernel_rfl, .one rfl⟩
instance : Sc Tryd.prog 150 := ⟨_, Tryd.underlying150, rfl, by kernel_rfl⟩
instance : ZeroT Tryd.prog 150 [.nilFunc] := ⟨.nilFunc, by kernel_rfl, .one rfl⟩
instance : Sc Tryd.prog 151 := ⟨_, Tryd.underlying151, rfl, by kernel_rfl⟩
instance : ZeroT Tryd.prog 151 [.pointer none] := ⟨.pointer none, by kernel_rfl, .one rfl⟩
instance : Ag Tryd.prog 152 8 := ⟨_, Tryd.underlying152, rfl, by kernel_rfl⟩
instance : FieldAt Tryd.prog 152 0 0 := ⟨_, _, 4, Tryd.underlying152, rfl, rfl, by kernel_rfl⟩
instance : FieldAt Tryd.prog 152 1 5 := ⟨_, _, 0, Tryd.underlying152, rfl, rfl, by kernel_rfl⟩
instance : FieldAt Tryd.prog 152 2 6 := ⟨_, _, 0, Tryd.underlying152, rfl, rfl, by kernel_rfl⟩
instance : FieldAt Tryd.prog 152 3 7 := ⟨_, _, 0, Tryd.underlying152, rfl, rfl, by kernel_rfl⟩
instance : OffsT Tryd.prog 152 [(0, 5), (5, 1), (6, 1), (7, 1)] [.int .i64 0, .int .i64 0, .int .i64 0, .string .empty, .bool false, .slice none 0 0, .slice none 0 0, .slice none 0 0] := ⟨(([(0, 5), (5, 1), (6, 1), (7, 1)] : List (Nat × Nat)).toArray[·]?), fun _ => by kernel_rfl, fun i p h => by simpa using h⟩
instance : ZeroT Tryd.prog 152 [.int .i64 0, .int .i64 0, .int .i64 0, .string .empty, .bool false, .slice none 0 0, .slice none 0 0, .slice none 0 0] := ⟨_, show still Tryd.prog (zeroValue 152) = some (.agg (List.toArray [.int .i64 0, .int .i64 0, .int .i64 0, .string .empty, .bool false, .slice none 0 0, .slice none 0 0, .slice none 0 0])) by kernel_rfl, .agg _⟩
instance : Ag Tryd.prog 153 8 := ⟨_, Tryd.underlying153, rfl, by kernel_rfl⟩
instance : FieldAt Tryd.prog 153 0 0 := ⟨_, _, 4, Tryd.underlying153, rfl, rfl, by kernel_rfl⟩
instance : FieldAt Tryd.prog 153 1 5 := ⟨_, _, 0, Tryd.underlying153, rfl, rfl, by kernel_rfl⟩
instance : FieldAt Tryd.prog 153 2 6 := ⟨_, _, 0, Tryd.underlying153, rfl, rfl, by kernel_rfl⟩
instance : FieldAt Tryd.prog 153 3 7 := ⟨_, _, 0, Tryd.underlying153, rfl, rfl, by kernel_rfl⟩
instance : OffsT Tryd.prog 153 [(0, 5), (5, 1), (6, 1), (7, 1)] [.int .i64 0, .int .i64 0, .int .i64 0, .string .empty, .bool false, .slice none 0 0, .slice none 0 0, .slice none 0 0] := ⟨(([(0, 5), (5, 1), (6, 1), (7, 1)] : List (Nat × Nat)).toArray[·]?), fun _ => by kernel_rfl, fun i p h => by simpa using h⟩
instance : ZeroT Tryd.prog 153 [.int .i64 0, .int .i64 0, .int .i64 0, .string .empty, .bool false, .slice none 0 0, .slice none 0 0, .slice none 0 0] := ⟨_, show still Tryd.prog (zeroValue 153) = some (.agg (List.toArray [.int .i64 0, .int .i64 0, .int .i64 0, .string .empty, .bool false, .slice none 0 0, .slice none 0 0, .slice none 0 0])) by kernel_rfl, .agg _⟩
instance : Sc Tryd.prog 154 := ⟨_, Tryd.underlying154, rfl, by kernel_rfl⟩
instance : ZeroT Tryd.prog 154 [.nilFunc] := ⟨.nilFunc, by kernel_rfl, .one rfl⟩
instance : Sc Tryd.prog 156 := ⟨_, Tryd.underlying156, rfl, by kernel_rfl⟩
instance : ZeroT Tryd.prog 156 [.nilFunc] := ⟨.nilFunc, by kernel_rfl, .one rfl⟩
instance : Sc Tryd.prog 158 := ⟨_, Tryd.underlying158, rfl, by kernel_rfl⟩
instance : ZeroT Tryd.prog 158 [.nilFunc] := ⟨.nilFunc, by kernel_rfl, .one rfl⟩
instance : Sc Tryd.prog 159 := ⟨_, Tryd.underlying159, rfl, by kernel_rfl⟩
instance : ZeroT Tryd.prog 159 [.nilFunc] := ⟨.nilFunc, by kernel_rfl, .one rfl⟩
instance : Sc Tryd.prog 160 := ⟨_, Tryd.underlying160, rfl, by kernel_rfl⟩
instance : ZeroT Tryd.prog 160 [.nilFunc] := ⟨.nilFunc, by kernel_rfl, .one rfl⟩
instance : Sc Tryd.prog 161 := ⟨_, Tryd.underlying161, rfl, by kernel_rfl⟩
instance : ZeroT Tryd.prog 161 [.nilFunc] := ⟨.nilFunc, by kernel_rfl, .one rfl⟩
instance : Sc Tryd.prog 162 := ⟨_, Tryd.underlying162, rfl, by kernel_rfl⟩
instance : ZeroT Tryd.prog 162 [.nilFunc] := ⟨.nilFunc, by kernel_rfl, .one rfl⟩
instance : Sc Tryd.prog 163 := ⟨_, Tryd.underlying163, rfl, by kernel_rfl⟩
instance : ZeroT Tryd.prog 163 [.nilFunc] := ⟨.nilFunc, by kernel_rfl, .one rfl⟩
instance : Sc Tryd.prog 164 := ⟨_, Tryd.underlying164, rfl, by kernel_rfl⟩
instance : ZeroT Tryd.prog 164 [.nilFunc] := ⟨.nilFunc, by kernel_rfl, .one rfl⟩
instance : Sc Tryd.prog 165 := ⟨_, Tryd.underlying165, rfl, by kernel_rfl⟩
instance : ZeroT Tryd.prog 165 [.nilFunc] := ⟨.nilFunc, by kernel_rfl, .one rfl⟩
instance : Sc Tryd.prog 167 := ⟨_, Tryd.underlying167, rfl, by kernel_rfl⟩
instance : ZeroT Tryd.prog 167 [.nilFunc] := ⟨.nilFunc, by kernel_rfl, .one rfl⟩
instance : Sc Tryd.prog 168 := ⟨_, Tryd.underlying168, rfl, by kernel_rfl⟩
instance : ZeroT Tryd.prog 168 [.nilFunc] := ⟨.nilFunc, by kernel_rfl, .one rfl⟩
instance : Sc Tryd.prog 169 := ⟨_, Tryd.underlying169, rfl, by kernel_rfl⟩
instance : ZeroT Tryd.prog 169 [.nilFunc] := ⟨.nilFunc, by kernel_rfl, .one rfl⟩
instance : Sc Tryd.prog 170 := ⟨_, Tryd.underlying170, rfl, by kernel_rfl⟩
instance : ZeroT Tryd.prog 170 [.nilFunc] := ⟨.nilFunc, by kernel_rfl, .one rfl⟩
instance : Sc Tryd.prog 171 := ⟨_, Tryd.underlying171, rfl, by kernel_rfl⟩
instance : ZeroT Tryd.prog 171 [.nilFunc] := ⟨.nilFunc, by kernel_rfl, .one rfl⟩
instance : Sc Tryd.prog 172 := ⟨_, Tryd.underlying172, rfl, by kernel_rfl⟩
instance : ZeroT Tryd.prog 172 [.nilFunc] := ⟨.nilFunc, by kernel_rfl, .one rfl⟩
instance : Sc Tryd.prog 173 := ⟨_, Tryd.underlying173, rfl, by kernel_rfl⟩
instance : ZeroT Tryd.prog 173 [.nilFunc] := ⟨.nilFunc, by kernel_rfl, .one rfl⟩
instance : Ag Tryd.prog 174 1 := ⟨_, Tryd.underlying174, rfl, by kernel_rfl⟩
instance : FieldAt Tryd.prog 174 0 0 := ⟨_, _, 0, Tryd.underlying174, rfl, rfl, by kernel_rfl⟩
instance : OffsT Tryd.prog 174 [(0, 1)] [.slice none 0 0] := ⟨(([(0, 1)] : List (Nat × Nat)).toArray[·]?), fun _ => by kernel_rfl, fun i p h => by simpa using h⟩
instance : ZeroT Tryd.prog 174 [.slice none 0 0] := ⟨_, show still Tryd.prog (zeroValue 174) = some (.agg (List.toArray [.slice none 0 0])) by kernel_rfl, .agg _⟩
instance : Ag Tryd.prog 175 1 := ⟨_, Tryd.underlying175, rfl, by kernel_rfl⟩
instance : FieldAt Tryd.prog 175 0 0 := ⟨_, _, 0, Tryd.underlying175, rfl, rfl, by kernel_rfl⟩
instance : OffsT Tryd.prog 175 [(0, 1)] [.slice none 0 0] := ⟨(([(0, 1)] : List (Nat × Nat)).toArray[·]?), fun _ => by kernel_rfl, fun i p h => by simpa using h⟩
instance : ZeroT Tryd.prog 175 [.slice none 0 0] := ⟨_, show still Tryd.prog (zeroValue 175) = some (.agg (List.toArray [.slice none 0 0])) by kernel_rfl, .agg _⟩
instance : Sc Tryd.prog 176 := ⟨_, Tryd.underlying176, rfl, by kernel_rfl⟩
instance : ZeroT Tryd.prog 176 [.nilFunc] := ⟨.nilFunc, by kernel_rfl, .one rfl⟩
instance : Ag Tryd.prog 177 4 := ⟨_, Tryd.underlying177, rfl, by kernel_rfl⟩
instance : FieldAt Tryd.prog 177 0 0 := ⟨_, _, 0, Tryd.underlying177, rfl, rfl, by kernel_rfl⟩
instance : FieldAt Tryd.prog 177 1 1 := ⟨_, _, 2, Tryd.underlying177, rfl, rfl, by kernel_rfl⟩
instance : OffsT Tryd.prog 177 [(0, 1), (1, 3)] [.int .i64 0, .int .i64 0, .int .i64 0, .int .i64 0] := ⟨(([(0, 1), (1, 3)] : List (Nat × Nat)).toArray[·]?), fun _ => by kernel_rfl, fun i p h => by simpa using h⟩
instance : ZeroT Tryd.prog 177 [.int .i64 0, .int .i64 0, .int .i64 0, .int .i64 0] := ⟨_, show still Tryd.prog (zeroValue 177) = some (.agg (List.toArray [.int .i64 0, .int .i64 0, .int .i64 0, .int .i64 0])) by kernel_rfl, .agg _⟩
instance : Ag Tryd.prog 178 4 := ⟨_, Tryd.underlying178, rfl, by kernel_rfl⟩
instance : FieldAt Tryd.prog 178 0 0 := ⟨_, _, 0, Tryd.underlying178, rfl, rfl, by kernel_rfl⟩
instance : FieldAt Tryd.prog 178 1 1 := ⟨_, _, 2, Tryd.underlying178, rfl, rfl, by kernel_rfl⟩
instance : OffsT Tryd.prog 178 [(0, 1), (1, 3)] [.int .i64 0, .int .i64 0, .int .i64 0, .int .i64 0] := ⟨(([(0, 1), (1, 3)] : List (Nat × Nat)).toArray[·]?), fun _ => by kernel_rfl, fun i p h => by simpa using h⟩
instance : ZeroT Tryd.prog 178 [.int .i64 0, .int .i64 0, .int .i64 0, .int .i64 0] := ⟨_, show still Tryd.prog (zeroValue 178) = some (.agg (List.toArray [.int .i64 0, .int .i64 0, .int .i64 0, .int .i64 0])) by kernel_rfl, .agg _⟩
instance : Sc Tryd.prog 179 := ⟨_, Tryd.underlying179, rfl, by kernel_rfl⟩
instance : ZeroT Tryd.prog 179 [.nilFunc] := ⟨.nilFunc, by kernel_rfl, .one rfl⟩
instance : Sc Tryd.prog 180 := ⟨_, Tryd.underlying180, rfl, by kernel_rfl⟩
instance : ZeroT Tryd.prog 180 [.nilFunc] := ⟨.nilFunc, by kernel_rfl, .one rfl⟩
instance : Sc Tryd.prog 181 := ⟨_, Tryd.underlying181, rfl, by kernel_rfl⟩
instance : ZeroT Tryd.prog 181 [.nilFunc] := ⟨.nilFunc, by kernel_rfl, .one rfl⟩
instance : Sc Tryd.prog 182 := ⟨_, Tryd.underlying182, rfl, by kernel_rfl⟩
instance : ZeroT Tryd.prog 182 [.nilFunc] := ⟨.nilFunc, by kernel_rfl, .one rfl⟩
instance : Sc Tryd.prog 183 := ⟨_, Tryd.underlying183, rfl, by kernel_rfl⟩
instance : ZeroT Tryd.prog 183 [.nilFunc] := ⟨.nilFunc, by kernel_rfl, .one rfl⟩
instance : Sc Tryd.prog 184 := ⟨_, Tryd.underlying184, rfl, by kernel_rfl⟩
instance : ZeroT Tryd.prog 184 [.nilFunc] := ⟨.nilFunc, by kernel_rfl, .one rfl⟩
instance : Sc Tryd.prog 185 := ⟨_, Tryd.underlying185, rfl, by kernel_rfl⟩
instance : ZeroT Tryd.prog 185 [.nilFunc] := ⟨.nilFunc, by kernel_rfl, .one rfl⟩
instance : Sc Tryd.prog 186 := ⟨_, Tryd.underlying186, rfl, by kernel_rfl⟩
instance : ZeroT Tryd.prog 186 [.nilFunc] := ⟨.nilFunc, by kernel_rfl, .one rfl⟩
instance : Sc Tryd.prog 187 := ⟨_, Tryd.underlying187, rfl, by kernel_rfl⟩
instance : ZeroT Tryd.prog 187 [.nilFunc] := ⟨.nilFunc, by kernel_rfl, .one rfl⟩
instance : Sc Tryd.prog 188 := ⟨_, Tryd.underlying188, rfl, by kernel_rfl⟩
instance : ZeroT Tryd.prog 188 [.int .u64 0] := ⟨.int .u64 0, by kernel_rfl, .one rfl⟩
instance : IntT Tryd.prog 188 .u64 := ⟨Tryd.underlying188⟩
instance : Sc Tryd.prog 190 := ⟨_, Tryd.underlying190, rfl, by kernel_rfl⟩
instance : ZeroT Tryd.prog 190 [.nilFunc] := ⟨.nilFunc, by kernel_rfl, .one rfl⟩
instance : Sc Tryd.prog 191 := ⟨_, Tryd.underlying191, rfl, by kernel_rfl⟩
instance : ZeroT Tryd.prog 191 [.pointer none] := ⟨.pointer none, by kernel_rfl, .one rfl⟩
instance : Ag Tryd.prog 192 2 := ⟨_, Tryd.underlying192, rfl, by kernel_rfl⟩
instance : FieldAt Tryd.prog 192 0 0 := ⟨_, _, 0, Tryd.underlying192, rfl, rfl, by kernel_rfl⟩
instance : FieldAt Tryd.prog 192 1 1 := ⟨_, _, 0, Tryd.underlying192, rfl, rfl, by kernel_rfl⟩
instance : OffsT Tryd.prog 192 [(0, 1), (1, 1)] [.pointer none, .slice none 0 0] := ⟨(([(0, 1), (1, 1)] : List (Nat × Nat)).toArray[·]?), fun _ => by kernel_rfl, fun i p h => by simpa using h⟩
instance : ZeroT Tryd.prog 192 [.pointer none, .slice none 0 0] := ⟨_, show still Tryd.prog (zeroValue 192) = some (.agg (List.toArray [.pointer none, .slice none 0 0])) by kernel_rfl, .agg _⟩
instance : Ag Tryd.prog 193 2 := ⟨_, Tryd.underlying193, rfl, by kernel_rfl⟩
instance : FieldAt Tryd.prog 193 0 0 := ⟨_, _, 0, Tryd.underlying193, rfl, rfl, by kernel_rfl⟩
instance : FieldAt Tryd.prog 193 1 1 := ⟨_, _, 0, Tryd.underlying193, rfl, rfl, by kernel_rfl⟩
instance : OffsT Tryd.prog 193 [(0, 1), (1, 1)] [.pointer none, .slice none 0 0] := ⟨(([(0, 1), (1, 1)] : List (Nat × Nat)).toArray[·]?), fun _ => by kernel_rfl, fun i p h => by simpa using h⟩
instance : ZeroT Tryd.prog 193 [.pointer none, .slice none 0 0] := ⟨_, show still Tryd.prog (zeroValue 193) = some (.agg (List.toArray [.pointer none, .slice none 0 0])) by kernel_rfl, .agg _⟩
instance : Sc Tryd.prog 194 := ⟨_, Tryd.underlying194, rfl, by kernel_rfl⟩
instance : ZeroT Tryd.prog 194 [.nilIface] := ⟨.nilIface, by kernel_rfl, .one rfl⟩
instance : Sc Tryd.prog 195 := ⟨_, Tryd.underlying195, rfl, by kernel_rfl⟩
instance : ZeroT Tryd.prog 195 [.nilIface] := ⟨.nilIface, by kernel_rfl, .one rfl⟩
instance : Sc Tryd.prog 197 := ⟨_, Tryd.underlying197, rfl, by kernel_rfl⟩
instance : ZeroT Tryd.prog 197 [.nilFunc] := ⟨.nilFunc, by kernel_rfl, .one rfl⟩
instance : Sc Tryd.prog 198 := ⟨_, Tryd.underlying198, rfl, by kernel_rfl⟩
instance : ZeroT Tryd.prog 198 [.nilFunc] := ⟨.nilFunc, by kernel_rfl, .one rfl⟩
instance : Sc Tryd.prog 199 := ⟨_, Tryd.underlying199, rfl, by kernel_rfl⟩
instance : ZeroT Tryd.prog 199 [.nilFunc] := ⟨.nilFunc, by kernel_rfl, .one rfl⟩
instance : Ag Tryd.prog 200 2 := ⟨_, Tryd.underlying200, rfl, by kernel_rfl⟩
instance : FieldAt Tryd.prog 200 0 0 := ⟨_, _, 0, Tryd.underlying200, rfl, rfl, by kernel_rfl⟩
instance : FieldAt Tryd.prog 200 1 1 := ⟨_, _, 0, Tryd.underlying200, rfl, rfl, by kernel_rfl⟩
instance : OffsT Tryd.prog 200 [(0, 1), (1, 1)] [.int .u8 0, .int .u8 0] := ⟨(([(0, 1), (1, 1)] : List (Nat × Nat)).toArray[·]?), fun _ => by kernel_rfl, fun i p h => by simpa using h⟩
instance : ZeroT Tryd.prog 200 [.int .u8 0, .int .u8 0] := ⟨_, show still Tryd.prog (zeroValue 200) = some (.agg (List.toArray [.int .u8 0, .int .u8 0])) by kernel_rfl, .agg _⟩
instance : Ag Tryd.prog 201 2 := ⟨_, Tryd.underlying201, rfl, by kernel_rfl⟩
instance : FieldAt Tryd.prog 201 0 0 := ⟨_, _, 0, Tryd.underlying201, rfl, rfl, by kernel_rfl⟩
instance : FieldAt Tryd.prog 201 1 1 := ⟨_, _, 0, Tryd.underlying201, rfl, rfl, by kernel_rfl⟩
instance : OffsT Tryd.prog 201 [(0, 1), (1, 1)] [.int .u8 0, .int .u8 0] := ⟨(([(0, 1), (1, 1)] : List (Nat × Nat)).toArray[·]?), fun _ => by kernel_rfl, fun i p h => by simpa using h⟩
instance : ZeroT Tryd.prog 201 [.int .u8 0, .int .u8 0] := ⟨_, show still Tryd.prog (zeroValue 201) = some (.agg (List.toArray [.int .u8 0, .int .u8 0])) by kernel_rfl, .agg _⟩
instance : Ag Tryd.prog 202 32 := ⟨_, Tryd.underlying202, rfl, by kernel_rfl⟩
instance : ArrT Tryd.prog 202 16 201 2 := ⟨Tryd.underlying202, by kernel_rfl⟩
instance : OffsT Tryd.prog 202 (arrOffs 16 2) [.int .u8 0, .int .u8 0, .int .u8 0, .int .u8 0, .int .u8 0, .int .u8 0, .int .u8 0, .int .u8 0, .int .u8 0, .int .u8 0, .int .u8 0, .int .u8 0, .int .u8 0, .int .u8 0, .int .u8 0, .int .u8 0, .int .u8 0, .int .u8 0, .int .u8 0, .int .u8 0, .int .u8 0, .int .u8 0, .int .u8 0, .int .u8 0, .int .u8 0, .int .u8 0, .int .u8 0, .int .u8 0, .int .u8 0, .int .u8 0, .int .u8 0, .int .u8 0] := ⟨fun i => some (i * 2, 2), fun _ => by kernel_rfl, arrOffs_at 16 2⟩
instance : ZeroT Tryd.prog 202 [.int .u8 0, .int .u8 0, .int .u8 0, .int .u8 0, .int .u8 0, .int .u8 0, .int .u8 0, .int .u8 0, .int .u8 0, .int .u8 0, .int .u8 0, .int .u8 0, .int .u8 0, .int .u8 0, .int .u8 0, .int .u8 0, .int .u8 0, .int .u8 0, .int .u8 0, .int .u8 0, .int .u8 0, .int .u8 0, .int .u8 0, .int .u8 0, .int .u8 0, .int .u8 0, .int .u8 0, .int .u8 0, .int .u8 0, .int .u8 0, .int .u8 0, .int .u8 0] := ⟨_, show still Tryd.prog (zeroValue 202) = some (.agg (List.toArray [.int .u8 0, .int .u8 0, .int .u8 0, .int .u8 0, .int .u8 0, .int .u8 0, .int .u8 0, .int .u8 0, .int .u8 0, .int .u8 0, .int .u8 0, .int .u8 0, .int .u8 0, .int .u8 0, .int .u8 0, .int .u8 0, .int .u8 0, .int .u8 0, .int .u8 0, .int .u8 0, .int .u8 0, .int .u8 0, .int .u8 0, .int .u8 0, .int .u8 0, .int .u8 0, .int .u8 0, .int .u8 0, .int .u8 0, .int .u8 0, .int .u8 0, .int .u8 0])) by kernel_rfl, .agg _⟩
instance : Sc Tryd.prog 203 := ⟨_, Tryd.underlying203, rfl, by kernel_rfl⟩
instance : ZeroT Tryd.prog 203 [.nilFunc] := ⟨.nilFunc, by kernel_rfl, .one rfl⟩
instance : Sc Tryd.prog 204 := ⟨_, Tryd.underlying204, rfl, by kernel_rfl⟩
instance : ZeroT Tryd.prog 204 [.nilFunc] := ⟨.nilFunc, by kernel_rfl, .one rfl⟩
instance : Sc Tryd.prog 205 := ⟨_, Tryd.underlying205, rfl, by kernel_rfl⟩
instance : ZeroT Tryd.prog 205 [.nilFunc] := ⟨.nilFunc, by kernel_rfl, .one rfl⟩
instance : Sc Tryd.prog 206 := ⟨_, Tryd.underlying206, rfl, by kernel_rfl⟩
instance : ZeroT Tryd.prog 206 [.nilFunc] := ⟨.nilFunc, by kernel_rfl, .one rfl⟩
instance : Sc Tryd.prog 207 := ⟨_, Tryd.underlying207, rfl, by kernel_rfl⟩
instance : ZeroT Tryd.prog 207 [.nilFunc] := ⟨.nilFunc, by kernel_rfl, .one rfl⟩
instance : Sc Tryd.prog 208 := ⟨_, Tryd.underlying208, rfl, by kernel_rfl⟩
instance : ZeroT Tryd.prog 208 [.nilFunc] := ⟨.nilFunc, by kernel_rfl, .one rfl⟩
instance : Sc Tryd.prog 209 := ⟨_, Tryd.underlying209, rfl, by kernel_rfl⟩
instance : ZeroT Tryd.prog 209 [.nilFunc] := ⟨.nilFunc, by kernel_rfl, .one rfl⟩
instance : Sc Tryd.prog 210 := ⟨_, Tryd.underlying210, rfl, by kernel_rfl⟩
instance : ZeroT Tryd.prog 210 [.nilFunc] := ⟨.nilFunc, by kernel_rfl, .one rfl⟩
instance : Sc Tryd.prog 211 := ⟨_, Tryd.underlying211, rfl, by kernel_rfl⟩
instance : ZeroT Tryd.prog 211 [.nilFunc] := ⟨.nilFunc, by kernel_rfl, .one rfl⟩
instance : Sc Tryd.prog 212 := ⟨_, Tryd.underlying212, rfl, by kernel_rfl⟩
instance : ZeroT Tryd.prog 212 [.nilFunc] := ⟨.nilFunc, by kernel_rfl, .one rfl⟩
instance : Ag Tryd.prog 213 256 := ⟨_, Tryd.underlying213, rfl, by kernel_rfl⟩
instance : ArrT Tryd.prog 213 256 4 1 := ⟨Tryd.underlying213, by kernel_rfl⟩
instance : Ag Tryd.prog 214 256 := ⟨_, Tryd.underlying214, rfl, by kernel_rfl⟩
instance : ArrT Tryd.prog 214 256 4 1 := ⟨Tryd.underlying214, by kernel_rfl⟩
instance : Sc Tryd.prog 216 := ⟨_, Tryd.underlying216, rfl, by kernel_rfl⟩
instance : ZeroT Tryd.prog 216 [.nilFunc] := ⟨.nilFunc, by kernel_rfl, .one rfl⟩
instance : Sc Tryd.prog 217 := ⟨_, Tryd.underlying217, rfl, by kernel_rfl⟩
instance : ZeroT Tryd.prog 217 [.nilFunc] := ⟨.nilFunc, by kernel_rfl, .one rfl⟩
instance : Sc Tryd.prog 218 := ⟨_, Tryd.underlying218, rfl, by kernel_rfl⟩
instance : ZeroT Tryd.prog 218 [.pointer none] := ⟨.pointer none, by kernel_rfl, .one rfl⟩
instance : Sc Tryd.prog 219 := ⟨_, Tryd.underlying219, rfl, by kernel_rfl⟩
instance : ZeroT Tryd.prog 219 [.int .u32 0] := ⟨.int .u32 0, by kernel_rfl, .one rfl⟩
instance : IntT Tryd.prog 219 .u32 := ⟨Tryd.underlying219⟩
instance : Sc Tryd.prog 221 := ⟨_, Tryd.underlying221, rfl, by kernel_rfl⟩
instance : ZeroT Tryd.prog 221 [.nilFunc] := ⟨.nilFunc, by kernel_rfl, .one rfl⟩
instance : Sc Tryd.prog 223 := ⟨_, Tryd.underlying223, rfl, by kernel_rfl⟩
instance : ZeroT Tryd.prog 223 [.nilFunc] := ⟨.nilFunc, by kernel_rfl, .one rfl⟩
instance : Sc Tryd.prog 224 := ⟨_, Tryd.underlying224, rfl, by kernel_rfl⟩
instance : ZeroT Tryd.prog 224 [.pointer none] := ⟨.pointer none, by kernel_rfl, .one rfl⟩
instance : Sc Tryd.prog 225 := ⟨_, Tryd.underlying225, rfl, by kernel_rfl⟩
instance : ZeroT Tryd.prog 225 [.nilFunc] := ⟨.nilFunc, by kernel_rfl, .one rfl⟩
instance : Sc Tryd.prog 226 := ⟨_, Tryd.underlying226, rfl, by kernel_rfl⟩
instance : ZeroT Tryd.prog 226 [.nilFunc] := ⟨.nilFunc, by kernel_rfl, .one rfl⟩
instance : Sc Tryd.prog 227 := ⟨_, Tryd.underlying227, rfl, by kernel_rfl⟩
instance : ZeroT Tryd.prog 227 [.nilFunc] := ⟨.nilFunc, by kernel_rfl, .one rfl⟩
instance : Sc Tryd.prog 228 := ⟨_, Tryd.underlying228, rfl, by kernel_rfl⟩
instance : ZeroT Tryd.prog 228 [.nilFunc] := ⟨.nilFunc, by kernel_rfl, .one rfl⟩
instance : Sc Tryd.prog 229 := ⟨_, Tryd.underlying229, rfl, by kernel_rfl⟩
instance : ZeroT Tryd.prog 229 [.nilFunc] := ⟨.nilFunc, by kernel_rfl, .one rfl⟩
instance : Sc Tryd.prog 230 := ⟨_, Tryd.underlying230, rfl, by kernel_rfl⟩
-- type 230: ('unsafePointer',)
instance : Sc Tryd.prog 231 := ⟨_, Tryd.underlying231, rfl, by kernel_rfl⟩
instance : ZeroT Tryd.prog 231 [.nilFunc] := ⟨.nilFunc, by kernel_rfl, .one rfl⟩
instance : Sc Tryd.prog 232 := ⟨_, Tryd.underlying232, rfl, by kernel_rfl⟩
instance : ZeroT Tryd.prog 232 [.nilFunc] := ⟨.nilFunc, by kernel_rfl, .one rfl⟩
instance : Sc Tryd.prog 233 := ⟨_, Tryd.underlying233, rfl, by kernel_rfl⟩
instance : ZeroT Tryd.prog 233 [.nilFunc] := ⟨.nilFunc, by kernel_rfl, .one rfl⟩
instance : Ag Tryd.prog 234 24 := ⟨_, Tryd.underlying234, rfl, by kernel_rfl⟩
instance : ArrT Tryd.prog 234 24 5 1 := ⟨Tryd.underlying234, by kernel_rfl⟩
instance : OffsT Tryd.prog 234 (arrOffs 24 1) [.int .u8 0, .int .u8 0, .int .u8 0, .int .u8 0, .int .u8 0, .int .u8 0, .int .u8 0, .int .u8 0, .int .u8 0, .int .u8 0, .int .u8 0, .int .u8 0, .int .u8 0, .int .u8 0, .int .u8 0, .int .u8 0, .int .u8 0, .int .u8 0, .int .u8 0, .int .u8 0, .int .u8 0, .int .u8 0, .int .u8 0, .int .u8 0] := ⟨fun i => some (i * 1, 1), fun _ => by kernel_rfl, arrOffs_at 24 1⟩
instance : ZeroT Tryd.prog 234 [.int .u8 0, .int .u8 0, .int .u8 0, .int .u8 0, .int .u8 0, .int .u8 0, .int .u8 0, .int .u8 0, .int .u8 0, .int .u8 0, .int .u8 0, .int .u8 0, .int .u8 0, .int .u8 0, .int .u8 0, .int .u8 0, .int .u8 0, .int .u8 0, .int .u8 0, .int .u8 0, .int .u8 0, .int .u8 0, .int .u8 0, .int .u8 0] := ⟨_, show still Tryd.prog (zeroValue 234) = some (.agg (List.toArray [.int .u8 0, .int .u8 0, .int .u8 0, .int .u8 0, .int .u8 0, .int .u8 0, .int .u8 0, .int .u8 0, .int .u8 0, .int .u8 0, .int .u8 0, .int .u8 0, .int .u8 0, .int .u8 0, .int .u8 0, .int .u8 0, .int .u8 0, .int .u8 0, .int .u8 0, .int .u8 0, .int .u8 0, .int .u8 0, .int .u8 0, .int .u8 0])) by kernel_rfl, .agg _⟩
instance : Sc Tryd.prog 235 := ⟨_, Tryd.underlying235, rfl, by kernel_rfl⟩
instance : ZeroT Tryd.prog 235 [.nilFunc] := ⟨.nilFunc, by kernel_rfl, .one rfl⟩
instance : Sc Tryd.prog 236 := ⟨_, Tryd.underlying236, rfl, by kernel_rfl⟩
instance : ZeroT Tryd.prog 236 [.nilFunc] := ⟨.nilFunc, by kernel_rfl, .one rfl⟩
instance : Sc Tryd.prog 238 := ⟨_, Tryd.underlying238, rfl, by kernel_rfl⟩
instance : ZeroT Tryd.prog 238 [.nilFunc] := ⟨.nilFunc, by kernel_rfl, .one rfl⟩
instance : Sc Tryd.prog 239 := ⟨_, Tryd.underlying239, rfl, by kernel_rfl⟩
instance : ZeroT Tryd.prog 239 [.nilFunc] := ⟨.nilFunc, by kernel_rfl, .one rfl⟩
instance : Sc Tryd.prog 240 := ⟨_, Tryd.underlying240, rfl, by kernel_rfl⟩
instance : ZeroT Tryd.prog 240 [.nilFunc] := ⟨.nilFunc, by kernel_rfl, .one rfl⟩
instance : Sc Tryd.prog 241 := ⟨_, Tryd.underlying241, rfl, by kernel_rfl⟩
instance : ZeroT Tryd.prog 241 [.nilFunc] := ⟨.nilFunc, by kernel_rfl, .one rfl⟩
instance : Ag Tryd.prog 242 20 := ⟨_, Tryd.underlying242, rfl, by kernel_rfl⟩
instance : ArrT Tryd.prog 242 20 57 1 := ⟨Tryd.underlying242, by kernel_rfl⟩
instance : OffsT Tryd.prog 242 (arrOffs 20 1) [.int .u64 0, .int .u64 0, .int .u64 0, .int .u64 0, .int .u64 0, .int .u64 0, .int .u64 0, .int .u64 0, .int .u64 0, .int .u64 0, .int .u64 0, .int .u64 0, .int .u64 0, .int .u64 0, .int .u64 0, .int .u64 0, .int .u64 0, .int .u64 0, .int .u64 0, .int .u64 0] := ⟨fun i => some (i * 1, 1), fun _ => by kernel_rfl, arrOffs_at 20 1⟩
instance : ZeroT Tryd.prog 242 [.int .u64 0, .int .u64 0, .int .u64 0, .int .u64 0, .int .u64 0, .int .u64 0, .int .u64 0, .int .u64 0, .int .u64 0, .int .u64 0, .int .u64 0, .int .u64 0, .int .u64 0, .int .u64 0, .int .u64 0, .int .u64 0, .int .u64 0, .int .u64 0, .int .u64 0, .int .u64 0] := ⟨_, show still Tryd.prog (zeroValue 242) = some (.agg (List.toArray [.int .u64 0, .int .u64 0, .int .u64 0, .int .u64 0, .int .u64 0, .int .u64 0, .int .u64 0, .int .u64 0, .int .u64 0, .int .u64 0, .int .u64 0, .int .u64 0, .int .u64 0, .int .u64 0, .int .u64 0, .int .u64 0, .int .u64 0, .int .u64 0, .int .u64 0, .int .u64 0])) by kernel_rfl, .agg _⟩
instance : Ag Tryd.prog 243 65 := ⟨_, Tryd.underlying243, rfl, by kernel_rfl⟩
instance : ArrT Tryd.prog 243 65 5 1 := ⟨Tryd.underlying243, by kernel_rfl⟩
instance : Sc Tryd.prog 244 := ⟨_, Tryd.underlying244, rfl, by kernel_rfl⟩
instance : ZeroT Tryd.prog 244 [.nilFunc] := ⟨.nilFunc, by kernel_rfl, .one rfl⟩
instance : Sc Tryd.prog 245 := ⟨_, Tryd.underlying245, rfl, by kernel_rfl⟩
instance : ZeroT Tryd.prog 245 [.nilFunc] := ⟨.nilFunc, by kernel_rfl, .one rfl⟩
instance : Sc Tryd.prog 246 := ⟨_, Tryd.underlying246, rfl, by kernel_rfl⟩
instance : ZeroT Tryd.prog 246 [.nilFunc] := ⟨.nilFunc, by kernel_rfl, .one rfl⟩
instance : Ag Tryd.prog 247 32 := ⟨_, Tryd.underlying247, rfl, by kernel_rfl⟩
instance : ArrT Tryd.prog 247 32 5 1 := ⟨Tryd.underlying247, by kernel_rfl⟩
instance : OffsT Tryd.prog 247 (arrOffs 32 1) [.int .u8 0, .int .u8 0, .int .u8 0, .int .u8 0, .int .u8 0, .int .u8 0, .int .u8 0, .int .u8 0, .int .u8 0, .int .u8 0, .int .u8 0, .int .u8 0, .int .u8 0, .int .u8 0, .int .u8 0, .int .u8 0, .int .u8 0, .int .u8 0, .int .u8 0, .int .u8 0, .int .u8 0, .int .u8 0, .int .u8 0, .int .u8 0, .int .u8 0, .int .u8 0, .int .u8 0, .int .u8 0, .int .u8 0, .int .u8 0, .int .u8 0, .int .u8 0] := ⟨fun i => some (i * 1, 1), fun _ => by kernel_rfl, arrOffs_at 32 1⟩
instance : ZeroT Tryd.prog 247 [.int .u8 0, .int .u8 0, .int .u8 0, .int .u8 0, .int .u8 0, .int .u8 0, .int .u8 0, .int .u8 0, .int .u8 0, .int .u8 0, .int .u8 0, .int .u8 0, .int .u8 0, .int .u8 0, .int .u8 0, .int .u8 0, .int .u8 0, .int .u8 0, .int .u8 0, .int .u8 0, .int .u8 0, .int .u8 0, .int .u8 0, .int .u8 0, .int .u8 0, .int .u8 0, .int .u8 0, .int .u8 0, .int .u8 0, .int .u8 0, .int .u8 0, .int .u8 0] := ⟨_, show still Tryd.prog (zeroValue 247) = some (.agg (List.toArray [.int .u8 0, .int .u8 0, .int .u8 0, .int .u8 0, .int .u8 0, .int .u8 0, .int .u8 0, .int .u8 0, .int .u8 0, .int .u8 0, .int .u8 0, .int .u8 0, .int .u8 0, .int .u8 0, .int .u8 0, .int .u8 0, .int .u8 0, .int .u8 0, .int .u8 0, .int .u8 0, .int .u8 0, .int .u8 0, .int .u8 0, .int .u8 0, .int .u8 0, .int .u8 0, .int .u8 0, .int .u8 0, .int .u8 0, .int .u8 0, .int .u8 0, .int .u8 0])) by kernel_rfl, .agg _⟩
instance : Ag Tryd.prog 248 64 := ⟨_, Tryd.underlying248, rfl, by kernel_rfl⟩
instance : ArrT Tryd.prog 248 64 5 1 := ⟨Tryd.underlying248, by kernel_rfl⟩
instance : Ag Tryd.prog 249 4 := ⟨_, Tryd.underlying249, rfl, by kernel_rfl⟩
instance : FieldAt Tryd.prog 249 0 0 := ⟨_, _, 0, Tryd.underlying249, rfl, rfl, by kernel_rfl⟩
instance : FieldAt Tryd.prog 249 1 1 := ⟨_, _, 0, Tryd.underlying249, rfl, rfl, by kernel_rfl⟩
instance : FieldAt Tryd.prog 249 2 2 := ⟨_, _, 0, Tryd.underlying249, rfl, rfl, by kernel_rfl⟩
instance : FieldAt Tryd.prog 249 3 3 := ⟨_, _, 0, Tryd.underlying249, rfl, rfl, by kernel_rfl⟩
instance : OffsT Tryd.prog 249 [(0, 1), (1, 1), (2, 1), (3, 1)] [.pointer none, .pointer none, .pointer none, .string .empty] := ⟨(([(0, 1), (1, 1), (2, 1), (3, 1)] : List (Nat × Nat)).toArray[·]?), fun _ => by kernel_rfl, fun i p h => by simpa using h⟩
instance : ZeroT Tryd.prog 249 [.pointer none, .pointer none, .pointer none, .string .empty] := ⟨_, show still Tryd.prog (zeroValue 249) = some (.agg (List.toArray [.pointer none, .pointer none, .pointer none, .string .empty])) by kernel_rfl, .agg _⟩
instance : Ag Tryd.prog 250 4 := ⟨_, Tryd.underlying250, rfl, by kernel_rfl⟩
instance : FieldAt Tryd.prog 250 0 0 := ⟨_, _, 0, Tryd.underlying250, rfl, rfl, by kernel_rfl⟩
instance : FieldAt Tryd.prog 250 1 1 := ⟨_, _, 0, Tryd.underlying250, rfl, rfl, by kernel_rfl⟩
instance : FieldAt Tryd.prog 250 2 2 := ⟨_, _, 0, Tryd.underlying250, rfl, rfl, by kernel_rfl⟩
instance : FieldAt Tryd.prog 250 3 3 := ⟨_, _, 0, Tryd.underlying250, rfl, rfl, by kernel_rfl⟩
instance : OffsT Tryd.prog 250 [(0, 1), (1, 1), (2, 1), (3, 1)] [.pointer none, .pointer none, .pointer none, .string .empty] := ⟨(([(0, 1), (1, 1), (2, 1), (3, 1)] : List (Nat × Nat)).toArray[·]?), fun _ => by kernel_rfl, fun i p h => by simpa using h⟩
instance : ZeroT Tryd.prog 250 [.pointer none, .pointer none, .pointer none, .string .empty] := ⟨_, show still Tryd.prog (zeroValue 250) = some (.agg (List.toArray [.pointer none, .pointer none, .pointer none, .string .empty])) by kernel_rfl, .agg _⟩
instance : Sc Tryd.prog 254 := ⟨_, Tryd.underlying254, rfl, by kernel_rfl⟩
instance : ZeroT Tryd.prog 254 [.int .u8 0] := ⟨.int .u8 0, by kernel_rfl, .one rfl⟩
instance : IntT Tryd.prog 254 .u8 := ⟨Tryd.underlying254⟩
instance : Sc Tryd.prog 255 := ⟨_, Tryd.underlying255, rfl, by kernel_rfl⟩
instance : ZeroT Tryd.prog 255 [.int .u8 0] := ⟨.int .u8 0, by kernel_rfl, .one rfl⟩
instance : IntT Tryd.prog 255 .u8 := ⟨Tryd.underlying255⟩
instance : Sc Tryd.prog 256 := ⟨_, Tryd.underlying256, rfl, by kernel_rfl⟩
instance : ZeroT Tryd.prog 256 [.nilFunc] := ⟨.nilFunc, by kernel_rfl, .one rfl⟩
instance : Sc Tryd.prog 257 := ⟨_, Tryd.underlying257, rfl, by kernel_rfl⟩
instance : ZeroT Tryd.prog 257 [.int .i32 0] := ⟨.int .i32 0, by kernel_rfl, .one rfl⟩
instance : IntT Tryd.prog 257 .i32 := ⟨Tryd.underlying257⟩
instance : Sc Tryd.prog 258 := ⟨_, Tryd.underlying258, rfl, by kernel_rfl⟩
instance : ZeroT Tryd.prog 258 [.int .i32 0] := ⟨.int .i32 0, by kernel_rfl, .one rfl⟩
instance : IntT Tryd.prog 258 .i32 := ⟨Tryd.underlying258⟩
instance : Ag Tryd.prog 259 11 := ⟨_, Tryd.underlying259, rfl, by kernel_rfl⟩
instance : FieldAt Tryd.prog 259 0 0 := ⟨_, _, 0, Tryd.underlying259, rfl, rfl, by kernel_rfl⟩
instance : FieldAt Tryd.prog 259 1 1 := ⟨_, _, 0, Tryd.underlying259, rfl, rfl, by kernel_rfl⟩
instance : FieldAt Tryd.prog 259 2 2 := ⟨_, _, 0, Tryd.underlying259, rfl, rfl, by kernel_rfl⟩
instance : FieldAt Tryd.prog 259 3 3 := ⟨_, _, 0, Tryd.underlying259, rfl, rfl, by kernel_rfl⟩
instance : FieldAt Tryd.prog 259 4 4 := ⟨_, _, 0, Tryd.underlying259, rfl, rfl, by kernel_rfl⟩
instance : FieldAt Tryd.prog 259 5 5 := ⟨_, _, 0, Tryd.underlying259, rfl, rfl, by kernel_rfl⟩
instance : FieldAt Tryd.prog 259 6 6 := ⟨_, _, 0, Tryd.underlying259, rfl, rfl, by kernel_rfl⟩
instance : FieldAt Tryd.prog 259 7 7 := ⟨_, _, 0, Tryd.underlying259, rfl, rfl, by kernel_rfl⟩
instance : FieldAt Tryd.prog 259 8 8 := ⟨_, _, 0, Tryd.underlying259, rfl, rfl, by kernel_rfl⟩
instance : FieldAt Tryd.prog 259 9 9 := ⟨_, _, 0, Tryd.underlying259, rfl, rfl, by kernel_rfl⟩
instance : FieldAt Tryd.prog 259 10 10 := ⟨_, _, 0, Tryd.underlying259, rfl, rfl, by kernel_rfl⟩
instance : OffsT Tryd.prog 259 [(0, 1), (1, 1), (2, 1), (3, 1), (4, 1), (5, 1), (6, 1), (7, 1), (8, 1), (9, 1), (10, 1)] [.int .u64 0, .int .u64 0, .int .u32 0, .int .u8 0, .int .u8 0, .int .u8 0, .int .u8 0, .nilFunc, .pointer none, .int .i32 0, .int .i32 0] := ⟨(([(0, 1), (1, 1), (2, 1), (3, 1), (4, 1), (5, 1), (6, 1), (7, 1), (8, 1), (9, 1), (10, 1)] : List (Nat × Nat)).toArray[·]?), fun _ => by kernel_rfl, fun i p h => by simpa using h⟩
instance : ZeroT Tryd.prog 259 [.int .u64 0, .int .u64 0, .int .u32 0, .int .u8 0, .int .u8 0, .int .u8 0, .int .u8 0, .nilFunc, .pointer none, .int .i32 0, .int .i32 0] := ⟨_, show still Tryd.prog (zeroValue 259) = some (.agg (List.toArray [.int .u64 0, .int .u64 0, .int .u32 0, .int .u8 0, .int .u8 0, .int .u8 0, .int .u8 0, .nilFunc, .pointer none, .int .i32 0, .int .i32 0])) by kernel_rfl, .agg _⟩
instance : Ag Tryd.prog 260 11 := ⟨_, Tryd.underlying260, rfl, by kernel_rfl⟩
instance : FieldAt Tryd.prog 260 0 0 := ⟨_, _, 0, Tryd.underlying260, rfl, rfl, by kernel_rfl⟩
instance : FieldAt Tryd.prog 260 1 1 := ⟨_, _, 0, Tryd.underlying260, rfl, rfl, by kernel_rfl⟩
instance : FieldAt Tryd.prog 260 2 2 := ⟨_, _, 0, Tryd.underlying260, rfl, rfl, by kernel_rfl⟩
instance : FieldAt Tryd.prog 260 3 3 := ⟨_, _, 0, Tryd.underlying260, rfl, rfl, by kernel_rfl⟩
instance : FieldAt Tryd.prog 260 4 4 := ⟨_, _, 0, Tryd.underlying260, rfl, rfl, by kernel_rfl⟩
instance : FieldAt Tryd.prog 260 5 5 := ⟨_, _, 0, Tryd.underlying260, rfl, rfl, by kernel_rfl⟩
instance : FieldAt Tryd.prog 260 6 6 := ⟨_, _, 0, Tryd.underlying260, rfl, rfl, by kernel_rfl⟩
instance : FieldAt Tryd.prog 260 7 7 := ⟨_, _, 0, Tryd.underlying260, rfl, rfl, by kernel_rfl⟩
instance : FieldAt Tryd.prog 260 8 8 := ⟨_, _, 0, Tryd.underlying260, rfl, rfl, by kernel_rfl⟩
instance : FieldAt Tryd.prog 260 9 9 := ⟨_, _, 0, Tryd.underlying260, rfl, rfl, by kernel_rfl⟩
instance : FieldAt Tryd.prog 260 10 10 := ⟨_, _, 0, Tryd.underlying260, rfl, rfl, by kernel_rfl⟩
instance : OffsT Tryd.prog 260 [(0, 1), (1, 1), (2, 1), (3, 1), (4, 1), (5, 1), (6, 1), (7, 1), (8, 1), (9, 1), (10, 1)] [.int .u64 0, .int .u64 0, .int .u32 0, .int .u8 0, .int .u8 0, .int .u8 0, .int .u8 0, .nilFunc, .pointer none, .int .i32 0, .int .i32 0] := ⟨(([(0, 1), (1, 1), (2, 1), (3, 1), (4, 1), (5, 1), (6, 1), (7, 1), (8, 1), (9, 1), (10, 1)] : List (Nat × Nat)).toArray[·]?), fun _ => by kernel_rfl, fun i p h => by simpa using h⟩
instance : ZeroT Tryd.prog 260 [.int .u64 0, .int .u64 0, .int .u32 0, .int .u8 0, .int .u8 0, .int .u8 0, .int .u8 0, .nilFunc, .pointer none, .int .i32 0, .int .i32 0] := ⟨_, show still Tryd.prog (zeroValue 260) = some (.agg (List.toArray [.int .u64 0, .int .u64 0, .int .u32 0, .int .u8 0, .int .u8 0, .int .u8 0, .int .u8 0, .nilFunc, .pointer none, .int .i32 0, .int .i32 0])) by kernel_rfl, .agg _⟩
end Go.Proofs.YteicfkhaaeoheaaDoor
