/- What the types of this program are. -/
import Derived.Test.YteicfkhaaeoheaaSxB
import Derived.Test.YteicfkhaaeoheaaRows
namespace Go.Proofs.Yteicfkhaaeoheaa
open Go Go.RowKit Go.Fw Go.Sx
set_option maxRecDepth 100000
instance : Wide Try.prog := ⟨by kernel_rfl⟩
instance : Sc Try.prog 1 := ⟨_, Try.underlying1, rfl, by kernel_rfl⟩
instance : ZeroT Try.prog 1 [.nilFunc] := ⟨.nilFunc, by kernel_rfl, .one rfl⟩
instance : Sc Try.prog 2 := ⟨_, Try.underlying2, rfl, by kernel_rfl⟩
instance : ZeroT Try.prog 2 [.int .i64 0] := ⟨.int .i64 0, by kernel_rfl, .one rfl⟩
instance : IntT Try.prog 2 .i64 := ⟨Try.underlying2⟩
instance : Sc Try.prog 3 := ⟨_, Try.underlying3, rfl, by kernel_rfl⟩
instance : ZeroT Try.prog 3 [.int .i64 0] := ⟨.int .i64 0, by kernel_rfl, .one rfl⟩
instance : IntT Try.prog 3 .i64 := ⟨Try.underlying3⟩
instance : Sc Try.prog 4 := ⟨_, Try.underlying4, rfl, by kernel_rfl⟩
instance : ZeroT Try.prog 4 [.bool false] := ⟨.bool false, by kernel_rfl, .one rfl⟩
instance : Sc Try.prog 5 := ⟨_, Try.underlying5, rfl, by kernel_rfl⟩
instance : ZeroT Try.prog 5 [.int .u8 0] := ⟨.int .u8 0, by kernel_rfl, .one rfl⟩
instance : IntT Try.prog 5 .u8 := ⟨Try.underlying5⟩
instance : Sc Try.prog 6 := ⟨_, Try.underlying6, rfl, by kernel_rfl⟩
instance : ZeroT Try.prog 6 [.int .u8 0] := ⟨.int .u8 0, by kernel_rfl, .one rfl⟩
instance : IntT Try.prog 6 .u8 := ⟨Try.underlying6⟩
instance : Ag Try.prog 7 4 := ⟨_, Try.underlying7, rfl, by kernel_rfl⟩
instance : FieldAt Try.prog 7 0 0 := ⟨_, _, 0, Try.underlying7, rfl, rfl, by kernel_rfl⟩
instance : FieldAt Try.prog 7 1 1 := ⟨_, _, 0, Try.underlying7, rfl, rfl, by kernel_rfl⟩
instance : FieldAt Try.prog 7 2 2 := ⟨_, _, 0, Try.underlying7, rfl, rfl, by kernel_rfl⟩
instance : FieldAt Try.prog 7 3 3 := ⟨_, _, 0, Try.underlying7, rfl, rfl, by kernel_rfl⟩
instance : OffsT Try.prog 7 [(0, 1), (1, 1), (2, 1), (3, 1)] [.int .i64 0, .int .i64 0, .bool false, .int .u8 0] := ⟨(([(0, 1), (1, 1), (2, 1), (3, 1)] : List (Nat × Nat)).toArray[·]?), fun _ => by kernel_rfl, fun i p h => by simpa using h⟩
instance : ZeroT Try.prog 7 [.int .i64 0, .int .i64 0, .bool false, .int .u8 0] := ⟨_, show still Try.prog (zeroValue 7) = some (.agg (List.toArray [.int .i64 0, .int .i64 0, .bool false, .int .u8 0])) by kernel_rfl, .agg _⟩
instance : Ag Try.prog 8 4 := ⟨_, Try.underlying8, rfl, by kernel_rfl⟩
instance : FieldAt Try.prog 8 0 0 := ⟨_, _, 0, Try.underlying8, rfl, rfl, by kernel_rfl⟩
instance : FieldAt Try.prog 8 1 1 := ⟨_, _, 0, Try.underlying8, rfl, rfl, by kernel_rfl⟩
instance : FieldAt Try.prog 8 2 2 := ⟨_, _, 0, Try.underlying8, rfl, rfl, by kernel_rfl⟩
instance : FieldAt Try.prog 8 3 3 := ⟨_, _, 0, Try.underlying8, rfl, rfl, by kernel_rfl⟩
instance : OffsT Try.prog 8 [(0, 1), (1, 1), (2, 1), (3, 1)] [.int .i64 0, .int .i64 0, .bool false, .int .u8 0] := ⟨(([(0, 1), (1, 1), (2, 1), (3, 1)] : List (Nat × Nat)).toArray[·]?), fun _ => by kernel_rfl, fun i p h => by simpa using h⟩
instance : ZeroT Try.prog 8 [.int .i64 0, .int .i64 0, .bool false, .int .u8 0] := ⟨_, show still Try.prog (zeroValue 8) = some (.agg (List.toArray [.int .i64 0, .int .i64 0, .bool false, .int .u8 0])) by kernel_rfl, .agg _⟩
instance : Sc Try.prog 9 := ⟨_, Try.underlying9, rfl, by kernel_rfl⟩
instance : ZeroT Try.prog 9 [.string .empty] := ⟨.string .empty, by kernel_rfl, .one rfl⟩
instance : StrT Try.prog 9 := ⟨Try.underlying9⟩
instance : Sc Try.prog 10 := ⟨_, Try.underlying10, rfl, by kernel_rfl⟩
instance : ZeroT Try.prog 10 [.string .empty] := ⟨.string .empty, by kernel_rfl, .one rfl⟩
instance : StrT Try.prog 10 := ⟨Try.underlying10⟩
instance : Sc Try.prog 11 := ⟨_, Try.underlying11, rfl, by kernel_rfl⟩
instance : ZeroT Try.prog 11 [.string .empty] := ⟨.string .empty, by kernel_rfl, .one rfl⟩
instance : StrT Try.prog 11 := ⟨Try.underlying11⟩
instance : Sc Try.prog 12 := ⟨_, Try.underlying12, rfl, by kernel_rfl⟩
instance : ZeroT Try.prog 12 [.int .u64 0] := ⟨.int .u64 0, by kernel_rfl, .one rfl⟩
instance : IntT Try.prog 12 .u64 := ⟨Try.underlying12⟩
instance : Ag Try.prog 13 2 := ⟨_, Try.underlying13, rfl, by kernel_rfl⟩
instance : FieldAt Try.prog 13 0 0 := ⟨_, _, 0, Try.underlying13, rfl, rfl, by kernel_rfl⟩
instance : FieldAt Try.prog 13 1 1 := ⟨_, _, 0, Try.underlying13, rfl, rfl, by kernel_rfl⟩
instance : OffsT Try.prog 13 [(0, 1), (1, 1)] [.string .empty, .int .u64 0] := ⟨(([(0, 1), (1, 1)] : List (Nat × Nat)).toArray[·]?), fun _ => by kernel_rfl, fun i p h => by simpa using h⟩
instance : ZeroT Try.prog 13 [.string .empty, .int .u64 0] := ⟨_, show still Try.prog (zeroValue 13) = some (.agg (List.toArray [.string .empty, .int .u64 0])) by kernel_rfl, .agg _⟩
instance : Ag Try.prog 14 2 := ⟨_, Try.underlying14, rfl, by kernel_rfl⟩
instance : FieldAt Try.prog 14 0 0 := ⟨_, _, 0, Try.underlying14, rfl, rfl, by kernel_rfl⟩
instance : FieldAt Try.prog 14 1 1 := ⟨_, _, 0, Try.underlying14, rfl, rfl, by kernel_rfl⟩
instance : OffsT Try.prog 14 [(0, 1), (1, 1)] [.string .empty, .int .u64 0] := ⟨(([(0, 1), (1, 1)] : List (Nat × Nat)).toArray[·]?), fun _ => by kernel_rfl, fun i p h => by simpa using h⟩
instance : ZeroT Try.prog 14 [.string .empty, .int .u64 0] := ⟨_, show still Try.prog (zeroValue 14) = some (.agg (List.toArray [.string .empty, .int .u64 0])) by kernel_rfl, .agg _⟩
instance : Sc Try.prog 15 := ⟨_, Try.underlying15, rfl, by kernel_rfl⟩
instance : ZeroT Try.prog 15 [.pointer none] := ⟨.pointer none, by kernel_rfl, .one rfl⟩
instance : Sc Try.prog 16 := ⟨_, Try.underlying16, rfl, by kernel_rfl⟩
instance : ZeroT Try.prog 16 [.pointer none] := ⟨.pointer none, by kernel_rfl, .one rfl⟩
instance : Sc Try.prog 17 := ⟨_, Try.underlying17, rfl, by kernel_rfl⟩
instance : ZeroT Try.prog 17 [.pointer none] := ⟨.pointer none, by kernel_rfl, .one rfl⟩
instance : Ag Try.prog 18 1 := ⟨_, Try.underlying18, rfl, by kernel_rfl⟩
instance : FieldAt Try.prog 18 0 0 := ⟨_, _, 0, Try.underlying18, rfl, rfl, by kernel_rfl⟩
instance : OffsT Try.prog 18 [(0, 1)] [.pointer none] := ⟨(([(0, 1)] : List (Nat × Nat)).toArray[·]?), fun _ => by kernel_rfl, fun i p h => by simpa using h⟩
instance : ZeroT Try.prog 18 [.pointer none] := ⟨_, show still Try.prog (zeroValue 18) = some (.agg (List.toArray [.pointer none])) by kernel_rfl, .agg _⟩
instance : Ag Try.prog 19 1 := ⟨_, Try.underlying19, rfl, by kernel_rfl⟩
instance : FieldAt Try.prog 19 0 0 := ⟨_, _, 0, Try.underlying19, rfl, rfl, by kernel_rfl⟩
instance : OffsT Try.prog 19 [(0, 1)] [.pointer none] := ⟨(([(0, 1)] : List (Nat × Nat)).toArray[·]?), fun _ => by kernel_rfl, fun i p h => by simpa using h⟩
instance : ZeroT Try.prog 19 [.pointer none] := ⟨_, show still Try.prog (zeroValue 19) = some (.agg (List.toArray [.pointer none])) by kernel_rfl, .agg _⟩
instance : Sc Try.prog 20 := ⟨_, Try.underlying20, rfl, by kernel_rfl⟩
instance : ZeroT Try.prog 20 [.nilIface] := ⟨.nilIface, by kernel_rfl, .one rfl⟩
instance : Sc Try.prog 21 := ⟨_, Try.underlying21, rfl, by kernel_rfl⟩
instance : ZeroT Try.prog 21 [.int .i32 0] := ⟨.int .i32 0, by kernel_rfl, .one rfl⟩
instance : IntT Try.prog 21 .i32 := ⟨Try.underlying21⟩
instance : Sc Try.prog 22 := ⟨_, Try.underlying22, rfl, by kernel_rfl⟩
instance : ZeroT Try.prog 22 [.slice none 0 0] := ⟨.slice none 0 0, by kernel_rfl, .one rfl⟩
instance : SliceT Try.prog 22 75 4 32 := ⟨Try.underlying22, by decide, by decide, .agg #[.int .i64 0, .int .i64 0, .int .i64 0, .int .i64 0], by kernel_rfl, by kernel_rfl⟩
instance : Ag Try.prog 23 3 := ⟨_, Try.underlying23, rfl, by kernel_rfl⟩
instance : FieldAt Try.prog 23 0 0 := ⟨_, _, 0, Try.underlying23, rfl, rfl, by kernel_rfl⟩
instance : FieldAt Try.prog 23 1 1 := ⟨_, _, 0, Try.underlying23, rfl, rfl, by kernel_rfl⟩
instance : FieldAt Try.prog 23 2 2 := ⟨_, _, 0, Try.underlying23, rfl, rfl, by kernel_rfl⟩
instance : OffsT Try.prog 23 [(0, 1), (1, 1), (2, 1)] [.int .i64 0, .int .i64 0, .slice none 0 0] := ⟨(([(0, 1), (1, 1), (2, 1)] : List (Nat × Nat)).toArray[·]?), fun _ => by kernel_rfl, fun i p h => by simpa using h⟩
instance : ZeroT Try.prog 23 [.int .i64 0, .int .i64 0, .slice none 0 0] := ⟨_, show still Try.prog (zeroValue 23) = some (.agg (List.toArray [.int .i64 0, .int .i64 0, .slice none 0 0])) by kernel_rfl, .agg _⟩
instance : Ag Try.prog 24 3 := ⟨_, Try.underlying24, rfl, by kernel_rfl⟩
instance : FieldAt Try.prog 24 0 0 := ⟨_, _, 0, Try.underlying24, rfl, rfl, by kernel_rfl⟩
instance : FieldAt Try.prog 24 1 1 := ⟨_, _, 0, Try.underlying24, rfl, rfl, by kernel_rfl⟩
instance : FieldAt Try.prog 24 2 2 := ⟨_, _, 0, Try.underlying24, rfl, rfl, by kernel_rfl⟩
instance : OffsT Try.prog 24 [(0, 1), (1, 1), (2, 1)] [.int .i64 0, .int .i64 0, .slice none 0 0] := ⟨(([(0, 1), (1, 1), (2, 1)] : List (Nat × Nat)).toArray[·]?), fun _ => by kernel_rfl, fun i p h => by simpa using h⟩
instance : ZeroT Try.prog 24 [.int .i64 0, .int .i64 0, .slice none 0 0] := ⟨_, show still Try.prog (zeroValue 24) = some (.agg (List.toArray [.int .i64 0, .int .i64 0, .slice none 0 0])) by kernel_rfl, .agg _⟩
instance : Ag Try.prog 25 3 := ⟨_, Try.underlying25, rfl, by kernel_rfl⟩
instance : FieldAt Try.prog 25 0 0 := ⟨_, _, 0, Try.underlying25, rfl, rfl, by kernel_rfl⟩
instance : FieldAt Try.prog 25 1 1 := ⟨_, _, 0, Try.underlying25, rfl, rfl, by kernel_rfl⟩
instance : FieldAt Try.prog 25 2 2 := ⟨_, _, 0, Try.underlying25, rfl, rfl, by kernel_rfl⟩
instance : OffsT Try.prog 25 [(0, 1), (1, 1), (2, 1)] [.int .i64 0, .int .i64 0, .int .i64 0] := ⟨(([(0, 1), (1, 1), (2, 1)] : List (Nat × Nat)).toArray[·]?), fun _ => by kernel_rfl, fun i p h => by simpa using h⟩
instance : ZeroT Try.prog 25 [.int .i64 0, .int .i64 0, .int .i64 0] := ⟨_, show still Try.prog (zeroValue 25) = some (.agg (List.toArray [.int .i64 0, .int .i64 0, .int .i64 0])) by kernel_rfl, .agg _⟩
instance : Ag Try.prog 26 3 := ⟨_, Try.underlying26, rfl, by kernel_rfl⟩
instance : FieldAt Try.prog 26 0 0 := ⟨_, _, 0, Try.underlying26, rfl, rfl, by kernel_rfl⟩
instance : FieldAt Try.prog 26 1 1 := ⟨_, _, 0, Try.underlying26, rfl, rfl, by kernel_rfl⟩
instance : FieldAt Try.prog 26 2 2 := ⟨_, _, 0, Try.underlying26, rfl, rfl, by kernel_rfl⟩
instance : OffsT Try.prog 26 [(0, 1), (1, 1), (2, 1)] [.int .i64 0, .int .i64 0, .int .i64 0] := ⟨(([(0, 1), (1, 1), (2, 1)] : List (Nat × Nat)).toArray[·]?), fun _ => by kernel_rfl, fun i p h => by simpa using h⟩
instance : ZeroT Try.prog 26 [.int .i64 0, .int .i64 0, .int .i64 0] := ⟨_, show still Try.prog (zeroValue 26) = some (.agg (List.toArray [.int .i64 0, .int .i64 0, .int .i64 0])) by kernel_rfl, .agg _⟩
instance : Sc Try.prog 27 := ⟨_, Try.underlying27, rfl, by kernel_rfl⟩
instance : ZeroT Try.prog 27 [.int .u64 0] := ⟨.int .u64 0, by kernel_rfl, .one rfl⟩
instance : IntT Try.prog 27 .u64 := ⟨Try.underlying27⟩
instance : Ag Try.prog 28 4 := ⟨_, Try.underlying28, rfl, by kernel_rfl⟩
instance : ArrT Try.prog 28 4 27 1 := ⟨Try.underlying28, by kernel_rfl⟩
instance : OffsT Try.prog 28 (arrOffs 4 1) [.int .u64 0, .int .u64 0, .int .u64 0, .int .u64 0] := ⟨fun i => some (i * 1, 1), fun _ => by kernel_rfl, arrOffs_at 4 1⟩
instance : ZeroT Try.prog 28 [.int .u64 0, .int .u64 0, .int .u64 0, .int .u64 0] := ⟨_, show still Try.prog (zeroValue 28) = some (.agg (List.toArray [.int .u64 0, .int .u64 0, .int .u64 0, .int .u64 0])) by kernel_rfl, .agg _⟩
instance : Ag Try.prog 29 4 := ⟨_, Try.underlying29, rfl, by kernel_rfl⟩
instance : FieldAt Try.prog 29 0 0 := ⟨_, _, 3, Try.underlying29, rfl, rfl, by kernel_rfl⟩
instance : OffsT Try.prog 29 [(0, 4)] [.int .u64 0, .int .u64 0, .int .u64 0, .int .u64 0] := ⟨(([(0, 4)] : List (Nat × Nat)).toArray[·]?), fun _ => by kernel_rfl, fun i p h => by simpa using h⟩
instance : ZeroT Try.prog 29 [.int .u64 0, .int .u64 0, .int .u64 0, .int .u64 0] := ⟨_, show still Try.prog (zeroValue 29) = some (.agg (List.toArray [.int .u64 0, .int .u64 0, .int .u64 0, .int .u64 0])) by kernel_rfl, .agg _⟩
instance : Ag Try.prog 30 4 := ⟨_, Try.underlying30, rfl, by kernel_rfl⟩
instance : FieldAt Try.prog 30 0 0 := ⟨_, _, 3, Try.underlying30, rfl, rfl, by kernel_rfl⟩
instance : OffsT Try.prog 30 [(0, 4)] [.int .u64 0, .int .u64 0, .int .u64 0, .int .u64 0] := ⟨(([(0, 4)] : List (Nat × Nat)).toArray[·]?), fun _ => by kernel_rfl, fun i p h => by simpa using h⟩
instance : ZeroT Try.prog 30 [.int .u64 0, .int .u64 0, .int .u64 0, .int .u64 0] := ⟨_, show still Try.prog (zeroValue 30) = some (.agg (List.toArray [.int .u64 0, .int .u64 0, .int .u64 0, .int .u64 0])) by kernel_rfl, .agg _⟩
instance : Ag Try.prog 31 2 := ⟨_, Try.underlying31, rfl, by kernel_rfl⟩
instance : ArrT Try.prog 31 2 3 1 := ⟨Try.underlying31, by kernel_rfl⟩
instance : OffsT Try.prog 31 (arrOffs 2 1) [.int .i64 0, .int .i64 0] := ⟨fun i => some (i * 1, 1), fun _ => by kernel_rfl, arrOffs_at 2 1⟩
instance : ZeroT Try.prog 31 [.int .i64 0, .int .i64 0] := ⟨_, show still Try.prog (zeroValue 31) = some (.agg (List.toArray [.int .i64 0, .int .i64 0])) by kernel_rfl, .agg _⟩
instance : Ag Try.prog 32 9 := ⟨_, Try.underlying32, rfl, by kernel_rfl⟩
instance : FieldAt Try.prog 32 0 0 := ⟨_, _, 0, Try.underlying32, rfl, rfl, by kernel_rfl⟩
instance : FieldAt Try.prog 32 1 1 := ⟨_, _, 0, Try.underlying32, rfl, rfl, by kernel_rfl⟩
instance : FieldAt Try.prog 32 2 2 := ⟨_, _, 2, Try.underlying32, rfl, rfl, by kernel_rfl⟩
instance : FieldAt Try.prog 32 3 5 := ⟨_, _, 0, Try.underlying32, rfl, rfl, by kernel_rfl⟩
instance : FieldAt Try.prog 32 4 6 := ⟨_, _, 1, Try.underlying32, rfl, rfl, by kernel_rfl⟩
instance : FieldAt Try.prog 32 5 8 := ⟨_, _, 0, Try.underlying32, rfl, rfl, by kernel_rfl⟩
instance : OffsT Try.prog 32 [(0, 1), (1, 1), (2, 3), (5, 1), (6, 2), (8, 1)] [.int .i64 0, .int .i64 0, .int .i64 0, .int .i64 0, .int .i64 0, .bool false, .int .i64 0, .int .i64 0, .int .i64 0] := ⟨(([(0, 1), (1, 1), (2, 3), (5, 1), (6, 2), (8, 1)] : List (Nat × Nat)).toArray[·]?), fun _ => by kernel_rfl, fun i p h => by simpa using h⟩
instance : ZeroT Try.prog 32 [.int .i64 0, .int .i64 0, .int .i64 0, .int .i64 0, .int .i64 0, .bool false, .int .i64 0, .int .i64 0, .int .i64 0] := ⟨_, show still Try.prog (zeroValue 32) = some (.agg (List.toArray [.int .i64 0, .int .i64 0, .int .i64 0, .int .i64 0, .int .i64 0, .bool false, .int .i64 0, .int .i64 0, .int .i64 0])) by kernel_rfl, .agg _⟩
instance : Ag Try.prog 33 9 := ⟨_, Try.underlying33, rfl, by kernel_rfl⟩
instance : FieldAt Try.prog 33 0 0 := ⟨_, _, 0, Try.underlying33, rfl, rfl, by kernel_rfl⟩
instance : FieldAt Try.prog 33 1 1 := ⟨_, _, 0, Try.underlying33, rfl, rfl, by kernel_rfl⟩
instance : FieldAt Try.prog 33 2 2 := ⟨_, _, 2, Try.underlying33, rfl, rfl, by kernel_rfl⟩
instance : FieldAt Try.prog 33 3 5 := ⟨_, _, 0, Try.underlying33, rfl, rfl, by kernel_rfl⟩
instance : FieldAt Try.prog 33 4 6 := ⟨_, _, 1, Try.underlying33, rfl, rfl, by kernel_rfl⟩
instance : FieldAt Try.prog 33 5 8 := ⟨_, _, 0, Try.underlying33, rfl, rfl, by kernel_rfl⟩
instance : OffsT Try.prog 33 [(0, 1), (1, 1), (2, 3), (5, 1), (6, 2), (8, 1)] [.int .i64 0, .int .i64 0, .int .i64 0, .int .i64 0, .int .i64 0, .bool false, .int .i64 0, .int .i64 0, .int .i64 0] := ⟨(([(0, 1), (1, 1), (2, 3), (5, 1), (6, 2), (8, 1)] : List (Nat × Nat)).toArray[·]?), fun _ => by kernel_rfl, fun i p h => by simpa using h⟩
instance : ZeroT Try.prog 33 [.int .i64 0, .int .i64 0, .int .i64 0, .int .i64 0, .int .i64 0, .bool false, .int .i64 0, .int .i64 0, .int .i64 0] := ⟨_, show still Try.prog (zeroValue 33) = some (.agg (List.toArray [.int .i64 0, .int .i64 0, .int .i64 0, .int .i64 0, .int .i64 0, .bool false, .int .i64 0, .int .i64 0, .int .i64 0])) by kernel_rfl, .agg _⟩
instance : Sc Try.prog 34 := ⟨_, Try.underlying34, rfl, by kernel_rfl⟩
instance : ZeroT Try.prog 34 [.slice none 0 0] := ⟨.slice none 0 0, by kernel_rfl, .one rfl⟩
instance : SliceT Try.prog 34 83 1 24 := ⟨Try.underlying34, by decide, by decide, .agg #[.slice none 0 0], by kernel_rfl, by kernel_rfl⟩
instance : Ag Try.prog 35 33 := ⟨_, Try.underlying35, rfl, by kernel_rfl⟩
instance : FieldAt Try.prog 35 0 0 := ⟨_, _, 2, Try.underlying35, rfl, rfl, by kernel_rfl⟩
instance : FieldAt Try.prog 35 1 3 := ⟨_, _, 0, Try.underlying35, rfl, rfl, by kernel_rfl⟩
instance : FieldAt Try.prog 35 2 4 := ⟨_, _, 0, Try.underlying35, rfl, rfl, by kernel_rfl⟩
instance : FieldAt Try.prog 35 3 5 := ⟨_, _, 0, Try.underlying35, rfl, rfl, by kernel_rfl⟩
instance : FieldAt Try.prog 35 4 6 := ⟨_, _, 0, Try.underlying35, rfl, rfl, by kernel_rfl⟩
instance : FieldAt Try.prog 35 5 7 := ⟨_, _, 0, Try.underlying35, rfl, rfl, by kernel_rfl⟩
instance : FieldAt Try.prog 35 6 8 := ⟨_, _, 2, Try.underlying35, rfl, rfl, by kernel_rfl⟩
instance : FieldAt Try.prog 35 7 11 := ⟨_, _, 0, Try.underlying35, rfl, rfl, by kernel_rfl⟩
instance : FieldAt Try.prog 35 8 12 := ⟨_, _, 3, Try.underlying35, rfl, rfl, by kernel_rfl⟩
instance : FieldAt Try.prog 35 9 16 := ⟨_, _, 1, Try.underlying35, rfl, rfl, by kernel_rfl⟩
instance : FieldAt Try.prog 35 10 18 := ⟨_, _, 0, Try.underlying35, rfl, rfl, by kernel_rfl⟩
instance : FieldAt Try.prog 35 11 19 := ⟨_, _, 8, Try.underlying35, rfl, rfl, by kernel_rfl⟩
instance : FieldAt Try.prog 35 12 28 := ⟨_, _, 2, Try.underlying35, rfl, rfl, by kernel_rfl⟩
instance : FieldAt Try.prog 35 13 31 := ⟨_, _, 0, Try.underlying35, rfl, rfl, by kernel_rfl⟩
instance : FieldAt Try.prog 35 14 32 := ⟨_, _, 0, Try.underlying35, rfl, rfl, by kernel_rfl⟩
instance : OffsT Try.prog 35 [(0, 3), (3, 1), (4, 1), (5, 1), (6, 1), (7, 1), (8, 3), (11, 1), (12, 4), (16, 2), (18, 1), (19, 9), (28, 3), (31, 1), (32, 1)] [.int .i64 0, .int .i64 0, .slice none 0 0, .int .i64 0, .int .i64 0, .bool false, .int .i64 0, .int .i64 0, .int .i64 0, .int .i64 0, .int .i64 0, .int .i64 0, .int .u64 0, .int .u64 0, .int .u64 0, .int .u64 0, .int .i64 0, .int .i64 0, .int .i64 0, .int .i64 0, .int .i64 0, .int .i64 0, .int .i64 0, .int .i64 0, .bool false, .int .i64 0, .int .i64 0, .int .i64 0, .int .i64 0, .int .i64 0, .slice none 0 0, .string .empty, .slice none 0 0] := ⟨(([(0, 3), (3, 1), (4, 1), (5, 1), (6, 1), (7, 1), (8, 3), (11, 1), (12, 4), (16, 2), (18, 1), (19, 9), (28, 3), (31, 1), (32, 1)] : List (Nat × Nat)).toArray[·]?), fun _ => by kernel_rfl, fun i p h => by simpa using h⟩
instance : ZeroT Try.prog 35 [.int .i64 0, .int .i64 0, .slice none 0 0, .int .i64 0, .int .i64 0, .bool false, .int .i64 0, .int .i64 0, .int .i64 0, .int .i64 0, .int .i64 0, .int .i64 0, .int .u64 0, .int .u64 0, .int .u64 0, .int .u64 0, .int .i64 0, .int .i64 0, .int .i64 0, .int .i64 0, .int .i64 0, .int .i64 0, .int .i64 0, .int .i64 0, .bool false, .int .i64 0, .int .i64 0, .int .i64 0, .int .i64 0, .int .i64 0, .slice none 0 0, .string .empty, .slice none 0 0] := ⟨_, show still Try.prog (zeroValue 35) = some (.agg (List.toArray [.int .i64 0, .int .i64 0, .slice none 0 0, .int .i64 0, .int .i64 0, .bool false, .int .i64 0, .int .i64 0, .int .i64 0, .int .i64 0, .int .i64 0, .int .i64 0, .int .u64 0, .int .u64 0, .int .u64 0, .int .u64 0, .int .i64 0, .int .i64 0, .int .i64 0, .int .i64 0, .int .i64 0, .int .i64 0, .int .i64 0, .int .i64 0, .bool false, .int .i64 0, .int .i64 0, .int .i64 0, .int .i64 0, .int .i64 0, .slice none 0 0, .string .empty, .slice none 0 0])) by kernel_rfl, .agg _⟩
instance : Ag Try.prog 36 33 := ⟨_, Try.underlying36, rfl, by kernel_rfl⟩
instance : FieldAt Try.prog 36 0 0 := ⟨_, _, 2, Try.underlying36, rfl, rfl, by kernel_rfl⟩
instance : FieldAt Try.prog 36 1 3 := ⟨_, _, 0, Try.underlying36, rfl, rfl, by kernel_rfl⟩
instance : FieldAt Try.prog 36 2 4 := ⟨_, _, 0, Try.underlying36, rfl, rfl, by kernel_rfl⟩
instance : FieldAt Try.prog 36 3 5 := ⟨_, _, 0, Try.underlying36, rfl, rfl, by kernel_rfl⟩
instance : FieldAt Try.prog 36 4 6 := ⟨_, _, 0, Try.underlying36, rfl, rfl, by kernel_rfl⟩
instance : FieldAt Try.prog 36 5 7 := ⟨_, _, 0, Try.underlying36, rfl, rfl, by kernel_rfl⟩
instance : FieldAt Try.prog 36 6 8 := ⟨_, _, 2, Try.underlying36, rfl, rfl, by kernel_rfl⟩
instance : FieldAt Try.prog 36 7 11 := ⟨_, _, 0, Try.underlying36, rfl, rfl, by kernel_rfl⟩
instance : FieldAt Try.prog 36 8 12 := ⟨_, _, 3, Try.underlying36, rfl, rfl, by kernel_rfl⟩
instance : FieldAt Try.prog 36 9 16 := ⟨_, _, 1, Try.underlying36, rfl, rfl, by kernel_rfl⟩
instance : FieldAt Try.prog 36 10 18 := ⟨_, _, 0, Try.underlying36, rfl, rfl, by kernel_rfl⟩
instance : FieldAt Try.prog 36 11 19 := ⟨_, _, 8, Try.underlying36, rfl, rfl, by kernel_rfl⟩
instance : FieldAt Try.prog 36 12 28 := ⟨_, _, 2, Try.underlying36, rfl, rfl, by kernel_rfl⟩
instance : FieldAt Try.prog 36 13 31 := ⟨_, _, 0, Try.underlying36, rfl, rfl, by kernel_rfl⟩
instance : FieldAt Try.prog 36 14 32 := ⟨_, _, 0, Try.underlying36, rfl, rfl, by kernel_rfl⟩
instance : OffsT Try.prog 36 [(0, 3), (3, 1), (4, 1), (5, 1), (6, 1), (7, 1), (8, 3), (11, 1), (12, 4), (16, 2), (18, 1), (19, 9), (28, 3), (31, 1), (32, 1)] [.int .i64 0, .int .i64 0, .slice none 0 0, .int .i64 0, .int .i64 0, .bool false, .int .i64 0, .int .i64 0, .int .i64 0, .int .i64 0, .int .i64 0, .int .i64 0, .int .u64 0, .int .u64 0, .int .u64 0, .int .u64 0, .int .i64 0, .int .i64 0, .int .i64 0, .int .i64 0, .int .i64 0, .int .i64 0, .int .i64 0, .int .i64 0, .bool false, .int .i64 0, .int .i64 0, .int .i64 0, .int .i64 0, .int .i64 0, .slice none 0 0, .string .empty, .slice none 0 0] := ⟨(([(0, 3), (3, 1), (4, 1), (5, 1), (6, 1), (7, 1), (8, 3), (11, 1), (12, 4), (16, 2), (18, 1), (19, 9), (28, 3), (31, 1), (32, 1)] : List (Nat × Nat)).toArray[·]?), fun _ => by kernel_rfl, fun i p h => by simpa using h⟩
instance : ZeroT Try.prog 36 [.int .i64 0, .int .i64 0, .slice none 0 0, .int .i64 0, .int .i64 0, .bool false, .int .i64 0, .int .i64 0, .int .i64 0, .int .i64 0, .int .i64 0, .int .i64 0, .int .u64 0, .int .u64 0, .int .u64 0, .int .u64 0, .int .i64 0, .int .i64 0, .int .i64 0, .int .i64 0, .int .i64 0, .int .i64 0, .int .i64 0, .int .i64 0, .bool false, .int .i64 0, .int .i64 0, .int .i64 0, .int .i64 0, .int .i64 0, .slice none 0 0, .string .empty, .slice none 0 0] := ⟨_, show still Try.prog (zeroValue 36) = some (.agg (List.toArray [.int .i64 0, .int .i64 0, .slice none 0 0, .int .i64 0, .int .i64 0, .bool false, .int .i64 0, .int .i64 0, .int .i64 0, .int .i64 0, .int .i64 0, .int .i64 0, .int .u64 0, .int .u64 0, .int .u64 0, .int .u64 0, .int .i64 0, .int .i64 0, .int .i64 0, .int .i64 0, .int .i64 0, .int .i64 0, .int .i64 0, .int .i64 0, .bool false, .int .i64 0, .int .i64 0, .int .i64 0, .int .i64 0, .int .i64 0, .slice none 0 0, .string .empty, .slice none 0 0])) by kernel_rfl, .agg _⟩
instance : Sc Try.prog 37 := ⟨_, Try.underlying37, rfl, by kernel_rfl⟩
instance : ZeroT Try.prog 37 [.slice none 0 0] := ⟨.slice none 0 0, by kernel_rfl, .one rfl⟩
instance : SliceT Try.prog 37 3 1 8 := ⟨Try.underlying37, by decide, by decide, .int .i64 0, by kernel_rfl, by kernel_rfl⟩
instance : Sc Try.prog 38 := ⟨_, Try.underlying38, rfl, by kernel_rfl⟩
instance : ZeroT Try.prog 38 [.slice none 0 0] := ⟨.slice none 0 0, by kernel_rfl, .one rfl⟩
instance : SliceT Try.prog 38 44 2 16 := ⟨Try.underlying38, by decide, by decide, .agg #[.int .i64 0, .int .i64 0], by kernel_rfl, by kernel_rfl⟩
instance : Sc Try.prog 39 := ⟨_, Try.underlying39, rfl, by kernel_rfl⟩
instance : ZeroT Try.prog 39 [.int .i64 0] := ⟨.int .i64 0, by kernel_rfl, .one rfl⟩
instance : IntT Try.prog 39 .i64 := ⟨Try.underlying39⟩
instance : Sc Try.prog 41 := ⟨_, Try.underlying41, rfl, by kernel_rfl⟩
instance : ZeroT Try.prog 41 [.nilFunc] := ⟨.nilFunc, by kernel_rfl, .one rfl⟩
instance : Sc Try.prog 42 := ⟨_, Try.underlying42, rfl, by kernel_rfl⟩
instance : ZeroT Try.prog 42 [.nilFunc] := ⟨.nilFunc, by kernel_rfl, .one rfl⟩
instance : Ag Try.prog 43 2 := ⟨_, Try.underlying43, rfl, by kernel_rfl⟩
instance : FieldAt Try.prog 43 0 0 := ⟨_, _, 0, Try.underlying43, rfl, rfl, by kernel_rfl⟩
instance : FieldAt Try.prog 43 1 1 := ⟨_, _, 0, Try.underlying43, rfl, rfl, by kernel_rfl⟩
instance : OffsT Try.prog 43 [(0, 1), (1, 1)] [.int .i64 0, .int .i64 0] := ⟨(([(0, 1), (1, 1)] : List (Nat × Nat)).toArray[·]?), fun _ => by kernel_rfl, fun i p h => by simpa using h⟩
instance : ZeroT Try.prog 43 [.int .i64 0, .int .i64 0] := ⟨_, show still Try.prog (zeroValue 43) = some (.agg (List.toArray [.int .i64 0, .int .i64 0])) by kernel_rfl, .agg _⟩
instance : Ag Try.prog 44 2 := ⟨_, Try.underlying44, rfl, by kernel_rfl⟩
instance : FieldAt Try.prog 44 0 0 := ⟨_, _, 0, Try.underlying44, rfl, rfl, by kernel_rfl⟩
instance : FieldAt Try.prog 44 1 1 := ⟨_, _, 0, Try.underlying44, rfl, rfl, by kernel_rfl⟩
instance : OffsT Try.prog 44 [(0, 1), (1, 1)] [.int .i64 0, .int .i64 0] := ⟨(([(0, 1), (1, 1)] : List (Nat × Nat)).toArray[·]?), fun _ => by kernel_rfl, fun i p h => by simpa using h⟩
instance : ZeroT Try.prog 44 [.int .i64 0, .int .i64 0] := ⟨_, show still Try.prog (zeroValue 44) = some (.agg (List.toArray [.int .i64 0, .int .i64 0])) by kernel_rfl, .agg _⟩
instance : Sc Try.prog 45 := ⟨_, Try.underlying45, rfl, by kernel_rfl⟩
instance : ZeroT Try.prog 45 [.nilFunc] := ⟨.nilFunc, by kernel_rfl, .one rfl⟩
instance : Sc Try.prog 46 := ⟨_, Try.underlying46, rfl, by kernel_rfl⟩
instance : ZeroT Try.prog 46 [.slice none 0 0] := ⟨.slice none 0 0, by kernel_rfl, .one rfl⟩
instance : SliceT Try.prog 46 22 1 24 := ⟨Try.underlying46, by decide, by decide, .slice none 0 0, by kernel_rfl, by kernel_rfl⟩
instance : Sc Try.prog 48 := ⟨_, Try.underlying48, rfl, by kernel_rfl⟩
instance : ZeroT Try.prog 48 [.nilFunc] := ⟨.nilFunc, by kernel_rfl, .one rfl⟩
instance : Sc Try.prog 50 := ⟨_, Try.underlying50, rfl, by kernel_rfl⟩
instance : ZeroT Try.prog 50 [.nilFunc] := ⟨.nilFunc, by kernel_rfl, .one rfl⟩
instance : Sc Try.prog 51 := ⟨_, Try.underlying51, rfl, by kernel_rfl⟩
instance : ZeroT Try.prog 51 [.nilFunc] := ⟨.nilFunc, by kernel_rfl, .one rfl⟩
instance : Sc Try.prog 52 := ⟨_, Try.underlying52, rfl, by kernel_rfl⟩
instance : ZeroT Try.prog 52 [.nilFunc] := ⟨.nilFunc, by kernel_rfl, .one rfl⟩
instance : Sc Try.prog 53 := ⟨_, Try.underlying53, rfl, by kernel_rfl⟩
instance : ZeroT Try.prog 53 [.nilFunc] := ⟨.nilFunc, by kernel_rfl, .one rfl⟩
instance : Sc Try.prog 54 := ⟨_, Try.underlying54, rfl, by kernel_rfl⟩
instance : ZeroT Try.prog 54 [.slice none 0 0] := ⟨.slice none 0 0, by kernel_rfl, .one rfl⟩
instance : SliceT Try.prog 54 9 1 16 := ⟨Try.underlying54, by decide, by decide, .string .empty, by kernel_rfl, by kernel_rfl⟩
instance : Sc Try.prog 56 := ⟨_, Try.underlying56, rfl, by kernel_rfl⟩
instance : ZeroT Try.prog 56 [.nilFunc] := ⟨.nilFunc, by kernel_rfl, .one rfl⟩
instance : Sc Try.prog 57 := ⟨_, Try.underlying57, rfl, by kernel_rfl⟩
instance : ZeroT Try.prog 57 [.nilFunc] := ⟨.nilFunc, by kernel_rfl, .one rfl⟩
instance : Sc Try.prog 58 := ⟨_, Try.underlying58, rfl, by kernel_rfl⟩
instance : ZeroT Try.prog 58 [.nilFunc] := ⟨.nilFunc, by kernel_rfl, .one rfl⟩
instance : Sc Try.prog 60 := ⟨_, Try.underlying60, rfl, by kernel_rfl⟩
instance : ZeroT Try.prog 60 [.nilFunc] := ⟨.nilFunc, by kernel_rfl, .one rfl⟩
instance : Sc Try.prog 61 := ⟨_, Try.underlying61, rfl, by kernel_rfl⟩
instance : ZeroT Try.prog 61 [.nilFunc] := ⟨.nilFunc, by kernel_rfl, .one rfl⟩
instance : Sc Try.prog 62 := ⟨_, Try.underlying62, rfl, by kernel_rfl⟩
instance : ZeroT Try.prog 62 [.nilFunc] := ⟨.nilFunc, by kernel_rfl, .one rfl⟩
instance : Sc Try.prog 63 := ⟨_, Try.underlying63, rfl, by kernel_rfl⟩
instance : ZeroT Try.prog 63 [.nilFunc] := ⟨.nilFunc, by kernel_rfl, .one rfl⟩
instance : Sc Try.prog 65 := ⟨_, Try.underlying65, rfl, by kernel_rfl⟩
instance : ZeroT Try.prog 65 [.nilFunc] := ⟨.nilFunc, by kernel_rfl, .one rfl⟩
instance : Sc Try.prog 66 := ⟨_, Try.underlying66, rfl, by kernel_rfl⟩
instance : ZeroT Try.prog 66 [.nilFunc] := ⟨.nilFunc, by kernel_rfl, .one rfl⟩
instance : Sc Try.prog 67 := ⟨_, Try.underlying67, rfl, by kernel_rfl⟩
instance : ZeroT Try.prog 67 [.nilFunc] := ⟨.nilFunc, by kernel_rfl, .one rfl⟩
instance : Sc Try.prog 68 := ⟨_, Try.underlying68, rfl, by kernel_rfl⟩
instance : ZeroT Try.prog 68 [.nilFunc] := ⟨.nilFunc, by kernel_rfl, .one rfl⟩
instance : Sc Try.prog 69 := ⟨_, Try.underlying69, rfl, by kernel_rfl⟩
instance : ZeroT Try.prog 69 [.nilFunc] := ⟨.nilFunc, by kernel_rfl, .one rfl⟩
instance : Sc Try.prog 70 := ⟨_, Try.underlying70, rfl, by kernel_rfl⟩
instance : ZeroT Try.prog 70 [.nilFunc] := ⟨.nilFunc, by kernel_rfl, .one rfl⟩
instance : Sc Try.prog 71 := ⟨_, Try.underlying71, rfl, by kernel_rfl⟩
instance : ZeroT Try.prog 71 [.nilFunc] := ⟨.nilFunc, by kernel_rfl, .one rfl⟩
instance : Sc Try.prog 72 := ⟨_, Try.underlying72, rfl, by kernel_rfl⟩
instance : ZeroT Try.prog 72 [.nilFunc] := ⟨.nilFunc, by kernel_rfl, .one rfl⟩
instance : Sc Try.prog 73 := ⟨_, Try.underlying73, rfl, by kernel_rfl⟩
instance : ZeroT Try.prog 73 [.nilFunc] := ⟨.nilFunc, by kernel_rfl, .one rfl⟩
instance : Ag Try.prog 74 4 := ⟨_, Try.underlying74, rfl, by kernel_rfl⟩
instance : FieldAt Try.prog 74 0 0 := ⟨_, _, 0, Try.underlying74, rfl, rfl, by kernel_rfl⟩
instance : FieldAt Try.prog 74 1 1 := ⟨_, _, 2, Try.underlying74, rfl, rfl, by kernel_rfl⟩
instance : OffsT Try.prog 74 [(0, 1), (1, 3)] [.int .i64 0, .int .i64 0, .int .i64 0, .int .i64 0] := ⟨(([(0, 1), (1, 3)] : List (Nat × Nat)).toArray[·]?), fun _ => by kernel_rfl, fun i p h => by simpa using h⟩
instance : ZeroT Try.prog 74 [.int .i64 0, .int .i64 0, .int .i64 0, .int .i64 0] := ⟨_, show still Try.prog (zeroValue 74) = some (.agg (List.toArray [.int .i64 0, .int .i64 0, .int .i64 0, .int .i64 0])) by kernel_rfl, .agg _⟩
instance : Ag Try.prog 75 4 := ⟨_, Try.underlying75, rfl, by kernel_rfl⟩
instance : FieldAt Try.prog 75 0 0 := ⟨_, _, 0, Try.underlying75, rfl, rfl, by kernel_rfl⟩
instance : FieldAt Try.prog 75 1 1 := ⟨_, _, 2, Try.underlying75, rfl, rfl, by kernel_rfl⟩
instance : OffsT Try.prog 75 [(0, 1), (1, 3)] [.int .i64 0, .int .i64 0, .int .i64 0, .int .i64 0] := ⟨(([(0, 1), (1, 3)] : List (Nat × Nat)).toArray[·]?), fun _ => by kernel_rfl, fun i p h => by simpa using h⟩
instance : ZeroT Try.prog 75 [.int .i64 0, .int .i64 0, .int .i64 0, .int .i64 0] := ⟨_, show still Try.prog (zeroValue 75) = some (.agg (List.toArray [.int .i64 0, .int .i64 0, .int .i64 0, .int .i64 0])) by kernel_rfl, .agg _⟩
instance : Sc Try.prog 76 := ⟨_, Try.underlying76, rfl, by kernel_rfl⟩
instance : ZeroT Try.prog 76 [.nilFunc] := ⟨.nilFunc, by kernel_rfl, .one rfl⟩
instance : Sc Try.prog 77 := ⟨_, Try.underlying77, rfl, by kernel_rfl⟩
instance : ZeroT Try.prog 77 [.nilFunc] := ⟨.nilFunc, by kernel_rfl, .one rfl⟩
instance : Sc Try.prog 78 := ⟨_, Try.underlying78, rfl, by kernel_rfl⟩
instance : ZeroT Try.prog 78 [.nilFunc] := ⟨.nilFunc, by kernel_rfl, .one rfl⟩
instance : Sc Try.prog 79 := ⟨_, Try.underlying79, rfl, by kernel_rfl⟩
instance : ZeroT Try.prog 79 [.nilFunc] := ⟨.nilFunc, by kernel_rfl, .one rfl⟩
instance : Sc Try.prog 80 := ⟨_, Try.underlying80, rfl, by kernel_rfl⟩
instance : ZeroT Try.prog 80 [.nilFunc] := ⟨.nilFunc, by kernel_rfl, .one rfl⟩
instance : Sc Try.prog 81 := ⟨_, Try.underlying81, rfl, by kernel_rfl⟩
instance : ZeroT Try.prog 81 [.nilFunc] := ⟨.nilFunc, by kernel_rfl, .one rfl⟩
instance : Ag Try.prog 82 1 := ⟨_, Try.underlying82, rfl, by kernel_rfl⟩
instance : FieldAt Try.prog 82 0 0 := ⟨_, _, 0, Try.underlying82, rfl, rfl, by kernel_rfl⟩
instance : OffsT Try.prog 82 [(0, 1)] [.slice none 0 0] := ⟨(([(0, 1)] : List (Nat × Nat)).toArray[·]?), fun _ => by kernel_rfl, fun i p h => by simpa using h⟩
instance : ZeroT Try.prog 82 [.slice none 0 0] := ⟨_, show still Try.prog (zeroValue 82) = some (.agg (List.toArray [.slice none 0 0])) by kernel_rfl, .agg _⟩
instance : Ag Try.prog 83 1 := ⟨_, Try.underlying83, rfl, by kernel_rfl⟩
instance : FieldAt Try.prog 83 0 0 := ⟨_, _, 0, Try.underlying83, rfl, rfl, by kernel_rfl⟩
instance : OffsT Try.prog 83 [(0, 1)] [.slice none 0 0] := ⟨(([(0, 1)] : List (Nat × Nat)).toArray[·]?), fun _ => by kernel_rfl, fun i p h => by simpa using h⟩
instance : ZeroT Try.prog 83 [.slice none 0 0] := ⟨_, show still Try.prog (zeroValue 83) = some (.agg (List.toArray [.slice none 0 0])) by kernel_rfl, .agg _⟩
instance : Sc Try.prog 84 := ⟨_, Try.underlying84, rfl, by kernel_rfl⟩
instance : ZeroT Try.prog 84 [.nilFunc] := ⟨.nilFunc, by kernel_rfl, .one rfl⟩
instance : Ag Try.prog 85 4 := ⟨_, Try.underlying85, rfl, by kernel_rfl⟩
instance : ArrT Try.prog 85 2 44 2 := ⟨Try.underlying85, by kernel_rfl⟩
instance : OffsT Try.prog 85 (arrOffs 2 2) [.int .i64 0, .int .i64 0, .int .i64 0, .int .i64 0] := ⟨fun i => some (i * 2, 2), fun _ => by kernel_rfl, arrOffs_at 2 2⟩
instance : ZeroT Try.prog 85 [.int .i64 0, .int .i64 0, .int .i64 0, .int .i64 0] := ⟨_, show still Try.prog (zeroValue 85) = some (.agg (List.toArray [.int .i64 0, .int .i64 0, .int .i64 0, .int .i64 0])) by kernel_rfl, .agg _⟩
instance : Sc Try.prog 86 := ⟨_, Try.underlying86, rfl, by kernel_rfl⟩
instance : ZeroT Try.prog 86 [.nilFunc] := ⟨.nilFunc, by kernel_rfl, .one rfl⟩
instance : Sc Try.prog 87 := ⟨_, Try.underlying87, rfl, by kernel_rfl⟩
instance : ZeroT Try.prog 87 [.nilFunc] := ⟨.nilFunc, by kernel_rfl, .one rfl⟩
instance : Sc Try.prog 88 := ⟨_, Try.underlying88, rfl, by kernel_rfl⟩
instance : ZeroT Try.prog 88 [.nilFunc] := ⟨.nilFunc, by kernel_rfl, .one rfl⟩
instance : Sc Try.prog 89 := ⟨_, Try.underlying89, rfl, by kernel_rfl⟩
instance : ZeroT Try.prog 89 [.nilFunc] := ⟨.nilFunc, by kernel_rfl, .one rfl⟩
instance : Sc Try.prog 90 := ⟨_, Try.underlying90, rfl, by kernel_rfl⟩
instance : ZeroT Try.prog 90 [.nilFunc] := ⟨.nilFunc, by kernel_rfl, .one rfl⟩
instance : Sc Try.prog 91 := ⟨_, Try.underlying91, rfl, by kernel_rfl⟩
instance : ZeroT Try.prog 91 [.nilFunc] := ⟨.nilFunc, by kernel_rfl, .one rfl⟩
instance : Sc Try.prog 92 := ⟨_, Try.underlying92, rfl, by kernel_rfl⟩
instance : ZeroT Try.prog 92 [.nilFunc] := ⟨.nilFunc, by kernel_rfl, .one rfl⟩
instance : Sc Try.prog 93 := ⟨_, Try.underlying93, rfl, by kernel_rfl⟩
instance : ZeroT Try.prog 93 [.nilFunc] := ⟨.nilFunc, by kernel_rfl, .one rfl⟩
instance : Sc Try.prog 94 := ⟨_, Try.underlying94, rfl, by kernel_rfl⟩
instance : ZeroT Try.prog 94 [.nilFunc] := ⟨.nilFunc, by kernel_rfl, .one rfl⟩
instance : Sc Try.prog 95 := ⟨_, Try.underlying95, rfl, by kernel_rfl⟩
instance : ZeroT Try.prog 95 [.nilFunc] := ⟨.nilFunc, by kernel_rfl, .one rfl⟩
instance : Sc Try.prog 96 := ⟨_, Try.underlying96, rfl, by kernel_rfl⟩
instance : ZeroT Try.prog 96 [.nilFunc] := ⟨.nilFunc, by kernel_rfl, .one rfl⟩
instance : Sc Try.prog 97 := ⟨_, Try.underlying97, rfl, by kernel_rfl⟩
instance : ZeroT Try.prog 97 [.nilFunc] := ⟨.nilFunc, by kernel_rfl, .one rfl⟩
instance : Sc Try.prog 99 := ⟨_, Try.underlying99, rfl, by kernel_rfl⟩
instance : ZeroT Try.prog 99 [.nilFunc] := ⟨.nilFunc, by kernel_rfl, .one rfl⟩
instance : Sc Try.prog 100 := ⟨_, Try.underlying100, rfl, by kernel_rfl⟩
instance : ZeroT Try.prog 100 [.nilFunc] := ⟨.nilFunc, by kernel_rfl, .one rfl⟩
instance : Sc Try.prog 101 := ⟨_, Try.underlying101, rfl, by kernel_rfl⟩
instance : ZeroT Try.prog 101 [.nilFunc] := ⟨.nilFunc, by kernel_rfl, .one rfl⟩
instance : Sc Try.prog 102 := ⟨_, Try.underlying102, rfl, by kernel_rfl⟩
instance : ZeroT Try.prog 102 [.nilFunc] := ⟨.nilFunc, by kernel_rfl, .one rfl⟩
instance : Sc Try.prog 103 := ⟨_, Try.underlying103, rfl, by kernel_rfl⟩
instance : ZeroT Try.prog 103 [.nilFunc] := ⟨.nilFunc, by kernel_rfl, .one rfl⟩
instance : Sc Try.prog 104 := ⟨_, Try.underlying104, rfl, by kernel_rfl⟩
instance : ZeroT Try.prog 104 [.nilFunc] := ⟨.nilFunc, by kernel_rfl, .one rfl⟩
instance : Sc Try.prog 105 := ⟨_, Try.underlying105, rfl, by kernel_rfl⟩
instance : ZeroT Try.prog 105 [.nilFunc] := ⟨.nilFunc, by kernel_rfl, .one rfl⟩
instance : Sc Try.prog 106 := ⟨_, Try.underlying106, rfl, by kernel_rfl⟩
instance : ZeroT Try.prog 106 [.nilFunc] := ⟨.nilFunc, by kernel_rfl, .one rfl⟩
instance : Sc Try.prog 107 := ⟨_, Try.underlying107, rfl, by kernel_rfl⟩
instance : ZeroT Try.prog 107 [.nilFunc] := ⟨.nilFunc, by kernel_rfl, .one rfl⟩
instance : Sc Try.prog 108 := ⟨_, Try.underlying108, rfl, by kernel_rfl⟩
instance : ZeroT Try.prog 108 [.nilFunc] := ⟨.nilFunc, by kernel_rfl, .one rfl⟩
instance : Sc Try.prog 109 := ⟨_, Try.underlying109, rfl, by kernel_rfl⟩
instance : ZeroT Try.prog 109 [.nilFunc] := ⟨.nilFunc, by kernel_rfl, .one rfl⟩
instance : Sc Try.prog 110 := ⟨_, Try.underlying110, rfl, by kernel_rfl⟩
instance : ZeroT Try.prog 110 [.nilFunc] := ⟨.nilFunc, by kernel_rfl, .one rfl⟩
instance : Sc Try.prog 111 := ⟨_, Try.underlying111, rfl, by kernel_rfl⟩
instance : ZeroT Try.prog 111 [.nilFunc] := ⟨.nilFunc, by kernel_rfl, .one rfl⟩
instance : Sc Try.prog 112 := ⟨_, Try.underlying112, rfl, by kernel_rfl⟩
instance : ZeroT Try.prog 112 [.int .u64 0] := ⟨.int .u64 0, by kernel_rfl, .one rfl⟩
instance : IntT Try.prog 112 .u64 := ⟨Try.underlying112⟩
instance : Sc Try.prog 113 := ⟨_, Try.underlying113, rfl, by kernel_rfl⟩
instance : ZeroT Try.prog 113 [.nilFunc] := ⟨.nilFunc, by kernel_rfl, .one rfl⟩
instance : Sc Try.prog 114 := ⟨_, Try.underlying114, rfl, by kernel_rfl⟩
instance : ZeroT Try.prog 114 [.nilFunc] := ⟨.nilFunc, by kernel_rfl, .one rfl⟩
instance : Sc Try.prog 115 := ⟨_, Try.underlying115, rfl, by kernel_rfl⟩
instance : ZeroT Try.prog 115 [.nilFunc] := ⟨.nilFunc, by kernel_rfl, .one rfl⟩
instance : Sc Try.prog 116 := ⟨_, Try.underlying116, rfl, by kernel_rfl⟩
instance : ZeroT Try.prog 116 [.nilFunc] := ⟨.nilFunc, by kernel_rfl, .one rfl⟩
instance : Sc Try.prog 117 := ⟨_, Try.underlying117, rfl, by kernel_rfl⟩
instance : ZeroT Try.prog 117 [.nilFunc] := ⟨.nilFunc, by kernel_rfl, .one rfl⟩
instance : Sc Try.prog 118 := ⟨_, Try.underlying118, rfl, by kernel_rfl⟩
instance : ZeroT Try.prog 118 [.nilFunc] := ⟨.nilFunc, by kernel_rfl, .one rfl⟩
instance : Sc Try.prog 119 := ⟨_, Try.underlying119, rfl, by kernel_rfl⟩
instance : ZeroT Try.prog 119 [.nilFunc] := ⟨.nilFunc, by kernel_rfl, .one rfl⟩
instance : Sc Try.prog 120 := ⟨_, Try.underlying120, rfl, by kernel_rfl⟩
instance : ZeroT Try.prog 120 [.nilFunc] := ⟨.nilFunc, by kernel_rfl, .one rfl⟩
instance : Sc Try.prog 121 := ⟨_, Try.underlying121, rfl, by kernel_rfl⟩
instance : ZeroT Try.prog 121 [.nilFunc] := ⟨.nilFunc, by kernel_rfl, .one rfl⟩
instance : Sc Try.prog 122 := ⟨_, Try.underlying122, rfl, by kernel_rfl⟩
instance : ZeroT Try.prog 122 [.slice none 0 0] := ⟨.slice none 0 0, by kernel_rfl, .one rfl⟩
instance : SliceT Try.prog 122 31 2 16 := ⟨Try.underlying122, by decide, by decide, .agg #[.int .i64 0, .int .i64 0], by kernel_rfl, by kernel_rfl⟩
instance : Sc Try.prog 123 := ⟨_, Try.underlying123, rfl, by kernel_rfl⟩
instance : ZeroT Try.prog 123 [.nilFunc] := ⟨.nilFunc, by kernel_rfl, .one rfl⟩
instance : Sc Try.prog 124 := ⟨_, Try.underlying124, rfl, by kernel_rfl⟩
instance : ZeroT Try.prog 124 [.pointer none] := ⟨.pointer none, by kernel_rfl, .one rfl⟩
instance : Sc Try.prog 125 := ⟨_, Try.underlying125, rfl, by kernel_rfl⟩
instance : ZeroT Try.prog 125 [.slice none 0 0] := ⟨.slice none 0 0, by kernel_rfl, .one rfl⟩
instance : SliceT Try.prog 125 5 1 1 := ⟨Try.underlying125, by decide, by decide, .int .u8 0, by kernel_rfl, by kernel_rfl⟩
instance : Ag Try.prog 126 2 := ⟨_, Try.underlying126, rfl, by kernel_rfl⟩
instance : FieldAt Try.prog 126 0 0 := ⟨_, _, 0, Try.underlying126, rfl, rfl, by kernel_rfl⟩
instance : FieldAt Try.prog 126 1 1 := ⟨_, _, 0, Try.underlying126, rfl, rfl, by kernel_rfl⟩
instance : OffsT Try.prog 126 [(0, 1), (1, 1)] [.pointer none, .slice none 0 0] := ⟨(([(0, 1), (1, 1)] : List (Nat × Nat)).toArray[·]?), fun _ => by kernel_rfl, fun i p h => by simpa using h⟩
instance : ZeroT Try.prog 126 [.pointer none, .slice none 0 0] := ⟨_, show still Try.prog (zeroValue 126) = some (.agg (List.toArray [.pointer none, .slice none 0 0])) by kernel_rfl, .agg _⟩
instance : Ag Try.prog 127 2 := ⟨_, Try.underlying127, rfl, by kernel_rfl⟩
instance : FieldAt Try.prog 127 0 0 := ⟨_, _, 0, Try.underlying127, rfl, rfl, by kernel_rfl⟩
instance : FieldAt Try.prog 127 1 1 := ⟨_, _, 0, Try.underlying127, rfl, rfl, by kernel_rfl⟩
instance : OffsT Try.prog 127 [(0, 1), (1, 1)] [.pointer none, .slice none 0 0] := ⟨(([(0, 1), (1, 1)] : List (Nat × Nat)).toArray[·]?), fun _ => by kernel_rfl, fun i p h => by simpa using h⟩
instance : ZeroT Try.prog 127 [.pointer none, .slice none 0 0] := ⟨_, show still Try.prog (zeroValue 127) = some (.agg (List.toArray [.pointer none, .slice none 0 0])) by kernel_rfl, .agg _⟩
instance : Sc Try.prog 128 := ⟨_, Try.underlying128, rfl, by kernel_rfl⟩
instance : ZeroT Try.prog 128 [.nilFunc] := ⟨.nilFunc, by kernel_rfl, .one rfl⟩
instance : Sc Try.prog 129 := ⟨_, Try.underlying129, rfl, by kernel_rfl⟩
instance : ZeroT Try.prog 129 [.nilIface] := ⟨.nilIface, by kernel_rfl, .one rfl⟩
instance : Sc Try.prog 130 := ⟨_, Try.underlying130, rfl, by kernel_rfl⟩
instance : ZeroT Try.prog 130 [.nilIface] := ⟨.nilIface, by kernel_rfl, .one rfl⟩
instance : Sc Try.prog 132 := ⟨_, Try.underlying132, rfl, by kernel_rfl⟩
instance : ZeroT Try.prog 132 [.nilFunc] := ⟨.nilFunc, by kernel_rfl, .one rfl⟩
instance : Sc Try.prog 133 := ⟨_, Try.underlying133, rfl, by kernel_rfl⟩
instance : ZeroT Try.prog 133 [.nilFunc] := ⟨.nilFunc, by kernel_rfl, .one rfl⟩
instance : Sc Try.prog 134 := ⟨_, Try.underlying134, rfl, by kernel_rfl⟩
instance : ZeroT Try.prog 134 [.nilFunc] := ⟨.nilFunc, by kernel_rfl, .one rfl⟩
instance : Sc Try.prog 135 := ⟨_, Try.underlying135, rfl, by kernel_rfl⟩
instance : ZeroT Try.prog 135 [.nilFunc] := ⟨.nilFunc, by kernel_rfl, .one rfl⟩
instance : Sc Try.prog 136 := ⟨_, Try.underlying136, rfl, by kernel_rfl⟩
instance : ZeroT Try.prog 136 [.nilFunc] := ⟨.nilFunc, by kernel_rfl, .one rfl⟩
instance : Sc Try.prog 137 := ⟨_, Try.underlying137, rfl, by kernel_rfl⟩
instance : ZeroT Try.prog 137 [.nilFunc] := ⟨.nilFunc, by kernel_rfl, .one rfl⟩
instance : Sc Try.prog 138 := ⟨_, Try.underlying138, rfl, by kernel_rfl⟩
instance : ZeroT Try.prog 138 [.nilFunc] := ⟨.nilFunc, by kernel_rfl, .one rfl⟩
instance : Sc Try.prog 139 := ⟨_, Try.underlying139, rfl, by kernel_rfl⟩
instance : ZeroT Try.prog 139 [.nilFunc] := ⟨.nilFunc, by kernel_rfl, .one rfl⟩
instance : Sc Try.prog 140 := ⟨_, Try.underlying140, rfl, by kernel_rfl⟩
instance : ZeroT Try.prog 140 [.nilFunc] := ⟨.nilFunc, by kernel_rfl, .one rfl⟩
instance : Sc Try.prog 141 := ⟨_, Try.underlying141, rfl, by kernel_rfl⟩
instance : ZeroT Try.prog 141 [.nilFunc] := ⟨.nilFunc, by kernel_rfl, .one rfl⟩
instance : Sc Try.prog 142 := ⟨_, Try.underlying142, rfl, by kernel_rfl⟩
instance : ZeroT Try.prog 142 [.int .i64 0] := ⟨.int .i64 0, by kernel_rfl, .one rfl⟩
instance : IntT Try.prog 142 .i64 := ⟨Try.underlying142⟩
instance : Sc Try.prog 144 := ⟨_, Try.underlying144, rfl, by kernel_rfl⟩
instance : ZeroT Try.prog 144 [.nilFunc] := ⟨.nilFunc, by kernel_rfl, .one rfl⟩
instance : Sc Try.prog 145 := ⟨_, Try.underlying145, rfl, by kernel_rfl⟩
instance : ZeroT Try.prog 145 [.nilFunc] := ⟨.nilFunc, by kernel_rfl, .one rfl⟩
instance : Sc Try.prog 146 := ⟨_, Try.underlying146, rfl, by kernel_rfl⟩
instance : ZeroT Try.prog 146 [.nilFunc] := ⟨.nilFunc, by kernel_rfl, .one rfl⟩
instance : Sc Try.prog 148 := ⟨_, Try.underlying148, rfl, by kernel_rfl⟩
instance : ZeroT Try.prog 148 [.nilFunc] := ⟨.nilFunc, by kernel_rfl, .one rfl⟩
instance : Sc Try.prog 149 := ⟨_, Try.underlying149, rfl, by kernel_rfl⟩
instance : ZeroT Try.prog 149 [.nilFunc] := ⟨.nilFunc, by kernel_rfl, .one rfl⟩
instance : Sc Try.prog 150 := ⟨_, Try.underlying150, rfl, by kernel_rfl⟩
instance : ZeroT Try.prog 150 [.int .u32 0] := ⟨.int .u32 0, by kernel_rfl, .one rfl⟩
instance : IntT Try.prog 150 .u32 := ⟨Try.underlying150⟩
instance : Sc Try.prog 151 := ⟨_, Try.underlying151, rfl, by kernel_rfl⟩
instance : ZeroT Try.prog 151 [.nilFunc] := ⟨.nilFunc, by kernel_rfl, .one rfl⟩
instance : Sc Try.prog 152 := ⟨_, Try.underlying152, rfl, by kernel_rfl⟩
instance : ZeroT Try.prog 152 [.nilFunc] := ⟨.nilFunc, by kernel_rfl, .one rfl⟩
instance : Sc Try.prog 153 := ⟨_, Try.underlying153, rfl, by kernel_rfl⟩
instance : ZeroT Try.prog 153 [.pointer none] := ⟨.pointer none, by kernel_rfl, .one rfl⟩
instance : Sc Try.prog 154 := ⟨_, Try.underlying154, rfl, by kernel_rfl⟩
instance : ZeroT Try.prog 154 [.nilFunc] := ⟨.nilFunc, by kernel_rfl, .one rfl⟩
instance : Sc Try.prog 155 := ⟨_, Try.underlying155, rfl, by kernel_rfl⟩
instance : ZeroT Try.prog 155 [.nilFunc] := ⟨.nilFunc, by kernel_rfl, .one rfl⟩
instance : Sc Try.prog 156 := ⟨_, Try.underlying156, rfl, by kernel_rfl⟩
instance : ZeroT Try.prog 156 [.int .u64 0] := ⟨.int .u64 0, by kernel_rfl, .one rfl⟩
instance : IntT Try.prog 156 .u64 := ⟨Try.underlying156⟩
instance : Sc Try.prog 157 := ⟨_, Try.underlying157, rfl, by kernel_rfl⟩
instance : ZeroT Try.prog 157 [.nilFunc] := ⟨.nilFunc, by kernel_rfl, .one rfl⟩
instance : Sc Try.prog 158 := ⟨_, Try.underlying158, rfl, by kernel_rfl⟩
instance : ZeroT Try.prog 158 [.nilFunc] := ⟨.nilFunc, by kernel_rfl, .one rfl⟩
instance : Sc Try.prog 159 := ⟨_, Try.underlying159, rfl, by kernel_rfl⟩
instance : ZeroT Try.prog 159 [.nilFunc] := ⟨.nilFunc, by kernel_rfl, .one rfl⟩
instance : Sc Try.prog 160 := ⟨_, Try.underlying160, rfl, by kernel_rfl⟩
instance : ZeroT Try.prog 160 [.pointer none] := ⟨.pointer none, by kernel_rfl, .one rfl⟩
instance : Sc Try.prog 161 := ⟨_, Try.underlying161, rfl, by kernel_rfl⟩
instance : ZeroT Try.prog 161 [.nilFunc] := ⟨.nilFunc, by kernel_rfl, .one rfl⟩
instance : Ag Try.prog 162 12 := ⟨_, Try.underlying162, rfl, by kernel_rfl⟩
instance : ArrT Try.prog 162 6 31 2 := ⟨Try.underlying162, by kernel_rfl⟩
instance : OffsT Try.prog 162 (arrOffs 6 2) [.int .i64 0, .int .i64 0, .int .i64 0, .int .i64 0, .int .i64 0, .int .i64 0, .int .i64 0, .int .i64 0, .int .i64 0, .int .i64 0, .int .i64 0, .int .i64 0] := ⟨fun i => some (i * 2, 2), fun _ => by kernel_rfl, arrOffs_at 6 2⟩
instance : ZeroT Try.prog 162 [.int .i64 0, .int .i64 0, .int .i64 0, .int .i64 0, .int .i64 0, .int .i64 0, .int .i64 0, .int .i64 0, .int .i64 0, .int .i64 0, .int .i64 0, .int .i64 0] := ⟨_, show still Try.prog (zeroValue 162) = some (.agg (List.toArray [.int .i64 0, .int .i64 0, .int .i64 0, .int .i64 0, .int .i64 0, .int .i64 0, .int .i64 0, .int .i64 0, .int .i64 0, .int .i64 0, .int .i64 0, .int .i64 0])) by kernel_rfl, .agg _⟩
instance : Ag Try.prog 163 24 := ⟨_, Try.underlying163, rfl, by kernel_rfl⟩
instance : ArrT Try.prog 163 12 31 2 := ⟨Try.underlying163, by kernel_rfl⟩
instance : OffsT Try.prog 163 (arrOffs 12 2) [.int .i64 0, .int .i64 0, .int .i64 0, .int .i64 0, .int .i64 0, .int .i64 0, .int .i64 0, .int .i64 0, .int .i64 0, .int .i64 0, .int .i64 0, .int .i64 0, .int .i64 0, .int .i64 0, .int .i64 0, .int .i64 0, .int .i64 0, .int .i64 0, .int .i64 0, .int .i64 0, .int .i64 0, .int .i64 0, .int .i64 0, .int .i64 0] := ⟨fun i => some (i * 2, 2), fun _ => by kernel_rfl, arrOffs_at 12 2⟩
instance : ZeroT Try.prog 163 [.int .i64 0, .int .i64 0, .int .i64 0, .int .i64 0, .int .i64 0, .int .i64 0, .int .i64 0, .int .i64 0, .int .i64 0, .int .i64 0, .int .i64 0, .int .i64 0, .int .i64 0, .int .i64 0, .int .i64 0, .int .i64 0, .int .i64 0, .int .i64 0, .int .i64 0, .int .i64 0, .int .i64 0, .int .i64 0, .int .i64 0, .int .i64 0] := ⟨_, show still Try.prog (zeroValue 163) = some (.agg (List.toArray [.int .i64 0, .int .i64 0, .int .i64 0, .int .i64 0, .int .i64 0, .int .i64 0, .int .i64 0, .int .i64 0, .int .i64 0, .int .i64 0, .int .i64 0, .int .i64 0, .int .i64 0, .int .i64 0, .int .i64 0, .int .i64 0, .int .i64 0, .int .i64 0, .int .i64 0, .int .i64 0, .int .i64 0, .int .i64 0, .int .i64 0, .int .i64 0])) by kernel_rfl, .agg _⟩
instance : Sc Try.prog 164 := ⟨_, Try.underlying164, rfl, by kernel_rfl⟩
instance : ZeroT Try.prog 164 [.nilFunc] := ⟨.nilFunc, by kernel_rfl, .one rfl⟩
instance : Sc Try.prog 165 := ⟨_, Try.underlying165, rfl, by kernel_rfl⟩
instance : ZeroT Try.prog 165 [.nilFunc] := ⟨.nilFunc, by kernel_rfl, .one rfl⟩
instance : Sc Try.prog 166 := ⟨_, Try.underlying166, rfl, by kernel_rfl⟩
-- type 166: ('unsafePointer',)
instance : Sc Try.prog 167 := ⟨_, Try.underlying167, rfl, by kernel_rfl⟩
instance : ZeroT Try.prog 167 [.nilFunc] := ⟨.nilFunc, by kernel_rfl, .one rfl⟩
instance : Sc Try.prog 168 := ⟨_, Try.underlying168, rfl, by kernel_rfl⟩
instance : ZeroT Try.prog 168 [.nilFunc] := ⟨.nilFunc, by kernel_rfl, .one rfl⟩
instance : Sc Try.prog 170 := ⟨_, Try.underlying170, rfl, by kernel_rfl⟩
instance : ZeroT Try.prog 170 [.nilFunc] := ⟨.nilFunc, by kernel_rfl, .one rfl⟩
instance : Sc Try.prog 171 := ⟨_, Try.underlying171, rfl, by kernel_rfl⟩
instance : ZeroT Try.prog 171 [.pointer none] := ⟨.pointer none, by kernel_rfl, .one rfl⟩
instance : Sc Try.prog 173 := ⟨_, Try.underlying173, rfl, by kernel_rfl⟩
instance : ZeroT Try.prog 173 [.nilFunc] := ⟨.nilFunc, by kernel_rfl, .one rfl⟩
instance : Sc Try.prog 175 := ⟨_, Try.underlying175, rfl, by kernel_rfl⟩
instance : ZeroT Try.prog 175 [.nilFunc] := ⟨.nilFunc, by kernel_rfl, .one rfl⟩
instance : Sc Try.prog 176 := ⟨_, Try.underlying176, rfl, by kernel_rfl⟩
instance : ZeroT Try.prog 176 [.nilFunc] := ⟨.nilFunc, by kernel_rfl, .one rfl⟩
instance : Sc Try.prog 178 := ⟨_, Try.underlying178, rfl, by kernel_rfl⟩
instance : ZeroT Try.prog 178 [.nilFunc] := ⟨.nilFunc, by kernel_rfl, .one rfl⟩
instance : Ag Try.prog 179 4 := ⟨_, Try.underlying179, rfl, by kernel_rfl⟩
instance : FieldAt Try.prog 179 0 0 := ⟨_, _, 0, Try.underlying179, rfl, rfl, by kernel_rfl⟩
instance : FieldAt Try.prog 179 1 1 := ⟨_, _, 0, Try.underlying179, rfl, rfl, by kernel_rfl⟩
instance : FieldAt Try.prog 179 2 2 := ⟨_, _, 0, Try.underlying179, rfl, rfl, by kernel_rfl⟩
instance : FieldAt Try.prog 179 3 3 := ⟨_, _, 0, Try.underlying179, rfl, rfl, by kernel_rfl⟩
instance : OffsT Try.prog 179 [(0, 1), (1, 1), (2, 1), (3, 1)] [.pointer none, .pointer none, .pointer none, .string .empty] := ⟨(([(0, 1), (1, 1), (2, 1), (3, 1)] : List (Nat × Nat)).toArray[·]?), fun _ => by kernel_rfl, fun i p h => by simpa using h⟩
instance : ZeroT Try.prog 179 [.pointer none, .pointer none, .pointer none, .string .empty] := ⟨_, show still Try.prog (zeroValue 179) = some (.agg (List.toArray [.pointer none, .pointer none, .pointer none, .string .empty])) by kernel_rfl, .agg _⟩
instance : Ag Try.prog 180 4 := ⟨_, Try.underlying180, rfl, by kernel_rfl⟩
instance : FieldAt Try.prog 180 0 0 := ⟨_, _, 0, Try.underlying180, rfl, rfl, by kernel_rfl⟩
instance : FieldAt Try.prog 180 1 1 := ⟨_, _, 0, Try.underlying180, rfl, rfl, by kernel_rfl⟩
instance : FieldAt Try.prog 180 2 2 := ⟨_, _, 0, Try.underlying180, rfl, rfl, by kernel_rfl⟩
instance : FieldAt Try.prog 180 3 3 := ⟨_, _, 0, Try.underlying180, rfl, rfl, by kernel_rfl⟩
instance : OffsT Try.prog 180 [(0, 1), (1, 1), (2, 1), (3, 1)] [.pointer none, .pointer none, .pointer none, .string .empty] := ⟨(([(0, 1), (1, 1), (2, 1), (3, 1)] : List (Nat × Nat)).toArray[·]?), fun _ => by kernel_rfl, fun i p h => by simpa using h⟩
instance : ZeroT Try.prog 180 [.pointer none, .pointer none, .pointer none, .string .empty] := ⟨_, show still Try.prog (zeroValue 180) = some (.agg (List.toArray [.pointer none, .pointer none, .pointer none, .string .empty])) by kernel_rfl, .agg _⟩
instance : Sc Try.prog 184 := ⟨_, Try.underlying184, rfl, by kernel_rfl⟩
instance : ZeroT Try.prog 184 [.nilFunc] := ⟨.nilFunc, by kernel_rfl, .one rfl⟩
instance : Sc Try.prog 185 := ⟨_, Try.underlying185, rfl, by kernel_rfl⟩
instance : ZeroT Try.prog 185 [.int .u8 0] := ⟨.int .u8 0, by kernel_rfl, .one rfl⟩
instance : IntT Try.prog 185 .u8 := ⟨Try.underlying185⟩
instance : Sc Try.prog 186 := ⟨_, Try.underlying186, rfl, by kernel_rfl⟩
instance : ZeroT Try.prog 186 [.int .u8 0] := ⟨.int .u8 0, by kernel_rfl, .one rfl⟩
instance : IntT Try.prog 186 .u8 := ⟨Try.underlying186⟩
instance : Sc Try.prog 187 := ⟨_, Try.underlying187, rfl, by kernel_rfl⟩
instance : ZeroT Try.prog 187 [.nilFunc] := ⟨.nilFunc, by kernel_rfl, .one rfl⟩
instance : Sc Try.prog 188 := ⟨_, Try.underlying188, rfl, by kernel_rfl⟩
instance : ZeroT Try.prog 188 [.int .i32 0] := ⟨.int .i32 0, by kernel_rfl, .one rfl⟩
instance : IntT Try.prog 188 .i32 := ⟨Try.underlying188⟩
instance : Sc Try.prog 189 := ⟨_, Try.underlying189, rfl, by kernel_rfl⟩
instance : ZeroT Try.prog 189 [.int .i32 0] := ⟨.int .i32 0, by kernel_rfl, .one rfl⟩
instance : IntT Try.prog 189 .i32 := ⟨Try.underlying189⟩
instance : Ag Try.prog 190 11 := ⟨_, Try.underlying190, rfl, by kernel_rfl⟩
instance : FieldAt Try.prog 190 0 0 := ⟨_, _, 0, Try.underlying190, rfl, rfl, by kernel_rfl⟩
instance : FieldAt Try.prog 190 1 1 := ⟨_, _, 0, Try.underlying190, rfl, rfl, by kernel_rfl⟩
instance : FieldAt Try.prog 190 2 2 := ⟨_, _, 0, Try.underlying190, rfl, rfl, by kernel_rfl⟩
instance : FieldAt Try.prog 190 3 3 := ⟨_, _, 0, Try.underlying190, rfl, rfl, by kernel_rfl⟩
instance : FieldAt Try.prog 190 4 4 := ⟨_, _, 0, Try.underlying190, rfl, rfl, by kernel_rfl⟩
instance : FieldAt Try.prog 190 5 5 := ⟨_, _, 0, Try.underlying190, rfl, rfl, by kernel_rfl⟩
instance : FieldAt Try.prog 190 6 6 := ⟨_, _, 0, Try.underlying190, rfl, rfl, by kernel_rfl⟩
instance : FieldAt Try.prog 190 7 7 := ⟨_, _, 0, Try.underlying190, rfl, rfl, by kernel_rfl⟩
instance : FieldAt Try.prog 190 8 8 := ⟨_, _, 0, Try.underlying190, rfl, rfl, by kernel_rfl⟩
instance : FieldAt Try.prog 190 9 9 := ⟨_, _, 0, Try.underlying190, rfl, rfl, by kernel_rfl⟩
instance : FieldAt Try.prog 190 10 10 := ⟨_, _, 0, Try.underlying190, rfl, rfl, by kernel_rfl⟩
instance : OffsT Try.prog 190 [(0, 1), (1, 1), (2, 1), (3, 1), (4, 1), (5, 1), (6, 1), (7, 1), (8, 1), (9, 1), (10, 1)] [.int .u64 0, .int .u64 0, .int .u32 0, .int .u8 0, .int .u8 0, .int .u8 0, .int .u8 0, .nilFunc, .pointer none, .int .i32 0, .int .i32 0] := ⟨(([(0, 1), (1, 1), (2, 1), (3, 1), (4, 1), (5, 1), (6, 1), (7, 1), (8, 1), (9, 1), (10, 1)] : List (Nat × Nat)).toArray[·]?), fun _ => by kernel_rfl, fun i p h => by simpa using h⟩
instance : ZeroT Try.prog 190 [.int .u64 0, .int .u64 0, .int .u32 0, .int .u8 0, .int .u8 0, .int .u8 0, .int .u8 0, .nilFunc, .pointer none, .int .i32 0, .int .i32 0] := ⟨_, show still Try.prog (zeroValue 190) = some (.agg (List.toArray [.int .u64 0, .int .u64 0, .int .u32 0, .int .u8 0, .int .u8 0, .int .u8 0, .int .u8 0, .nilFunc, .pointer none, .int .i32 0, .int .i32 0])) by kernel_rfl, .agg _⟩
instance : Ag Try.prog 191 11 := ⟨_, Try.underlying191, rfl, by kernel_rfl⟩
instance : FieldAt Try.prog 191 0 0 := ⟨_, _, 0, Try.underlying191, rfl, rfl, by kernel_rfl⟩
instance : FieldAt Try.prog 191 1 1 := ⟨_, _, 0, Try.underlying191, rfl, rfl, by kernel_rfl⟩
instance : FieldAt Try.prog 191 2 2 := ⟨_, _, 0, Try.underlying191, rfl, rfl, by kernel_rfl⟩
instance : FieldAt Try.prog 191 3 3 := ⟨_, _, 0, Try.underlying191, rfl, rfl, by kernel_rfl⟩
instance : FieldAt Try.prog 191 4 4 := ⟨_, _, 0, Try.underlying191, rfl, rfl, by kernel_rfl⟩
instance : FieldAt Try.prog 191 5 5 := ⟨_, _, 0, Try.underlying191, rfl, rfl, by kernel_rfl⟩
instance : FieldAt Try.prog 191 6 6 := ⟨_, _, 0, Try.underlying191, rfl, rfl, by kernel_rfl⟩
instance : FieldAt Try.prog 191 7 7 := ⟨_, _, 0, Try.underlying191, rfl, rfl, by kernel_rfl⟩
instance : FieldAt Try.prog 191 8 8 := ⟨_, _, 0, Try.underlying191, rfl, rfl, by kernel_rfl⟩
instance : FieldAt Try.prog 191 9 9 := ⟨_, _, 0, Try.underlying191, rfl, rfl, by kernel_rfl⟩
instance : FieldAt Try.prog 191 10 10 := ⟨_, _, 0, Try.underlying191, rfl, rfl, by kernel_rfl⟩
instance : OffsT Try.prog 191 [(0, 1), (1, 1), (2, 1), (3, 1), (4, 1), (5, 1), (6, 1), (7, 1), (8, 1), (9, 1), (10, 1)] [.int .u64 0, .int .u64 0, .int .u32 0, .int .u8 0, .int .u8 0, .int .u8 0, .int .u8 0, .nilFunc, .pointer none, .int .i32 0, .int .i32 0] := ⟨(([(0, 1), (1, 1), (2, 1), (3, 1), (4, 1), (5, 1), (6, 1), (7, 1), (8, 1), (9, 1), (10, 1)] : List (Nat × Nat)).toArray[·]?), fun _ => by kernel_rfl, fun i p h => by simpa using h⟩
instance : ZeroT Try.prog 191 [.int .u64 0, .int .u64 0, .int .u32 0, .int .u8 0, .int .u8 0, .int .u8 0, .int .u8 0, .nilFunc, .pointer none, .int .i32 0, .int .i32 0] := ⟨_, show still Try.prog (zeroValue 191) = some (.agg (List.toArray [.int .u64 0, .int .u64 0, .int .u32 0, .int .u8 0, .int .u8 0, .int .u8 0, .int .u8 0, .nilFunc, .pointer none, .int .i32 0, .int .i32 0])) by kernel_rfl, .agg _⟩
end Go.Proofs.Yteicfkhaaeoheaa
