/- What the types of this program are. -/
import Derived.Test.YtgcnfcgnkfkpeaaSxB
import Derived.Test.YtgcnfcgnkfkpeaaRows
namespace Go.Proofs.Ytgcnfcgnkfkpeaa
open Go Go.RowKit Go.Fw Go.Sx
set_option maxRecDepth 100000
instance : Wide Try.prog := ⟨by kernel_rfl⟩
instance : Sc Try.prog 1 := ⟨_, Try.underlying1, rfl, by kernel_rfl⟩
instance : ZeroT Try.prog 1 [.nilFunc] := ⟨.nilFunc, by kernel_rfl, .one rfl⟩
instance : Sc Try.prog 2 := ⟨_, Try.underlying2, rfl, by kernel_rfl⟩
instance : ZeroT Try.prog 2 [.int .i64 0] := ⟨.int .i64 0, by kernel_rfl, .one rfl⟩
instance : IntT Try.prog 2 .i64 := ⟨Try.underlying2⟩
instance : Sc Try.prog 3 := ⟨_, Try.underlying3, rfl, by kernel_rfl⟩
instance : ZeroT Try.prog 3 [.int .i64 0] := ⟨.int .i64 0, by kernel_rfl, .one rfl⟩
instance : IntT Try.prog 3 .i64 := ⟨Try.underlying3⟩
instance : Sc Try.prog 4 := ⟨_, Try.underlying4, rfl, by kernel_rfl⟩
instance : ZeroT Try.prog 4 [.bool false] := ⟨.bool false, by kernel_rfl, .one rfl⟩
instance : Sc Try.prog 5 := ⟨_, Try.underlying5, rfl, by kernel_rfl⟩
instance : ZeroT Try.prog 5 [.int .u8 0] := ⟨.int .u8 0, by kernel_rfl, .one rfl⟩
instance : IntT Try.prog 5 .u8 := ⟨Try.underlying5⟩
instance : Sc Try.prog 6 := ⟨_, Try.underlying6, rfl, by kernel_rfl⟩
instance : ZeroT Try.prog 6 [.int .u8 0] := ⟨.int .u8 0, by kernel_rfl, .one rfl⟩
instance : IntT Try.prog 6 .u8 := ⟨Try.underlying6⟩
instance : Ag Try.prog 7 4 := ⟨_, Try.underlying7, rfl, by kernel_rfl⟩
instance : FieldAt Try.prog 7 0 0 := ⟨_, _, 0, Try.underlying7, rfl, rfl, by kernel_rfl⟩
instance : FieldAt Try.prog 7 1 1 := ⟨_, _, 0, Try.underlying7, rfl, rfl, by kernel_rfl⟩
instance : FieldAt Try.prog 7 2 2 := ⟨_, _, 0, Try.underlying7, rfl, rfl, by kernel_rfl⟩
instance : FieldAt Try.prog 7 3 3 := ⟨_, _, 0, Try.underlying7, rfl, rfl, by kernel_rfl⟩
instance : OffsT Try.prog 7 [(0, 1), (1, 1), (2, 1), (3, 1)] [.int .i64 0, .int .i64 0, .bool false, .int .u8 0] := ⟨(([(0, 1), (1, 1), (2, 1), (3, 1)] : List (Nat × Nat)).toArray[·]?), fun _ => by kernel_rfl, fun i p h => by simpa using h⟩
instance : ZeroT Try.prog 7 [.int .i64 0, .int .i64 0, .bool false, .int .u8 0] := ⟨_, show still Try.prog (zeroValue 7) = some (.agg (List.toArray [.int .i64 0, .int .i64 0, .bool false, .int .u8 0])) by kernel_rfl, .agg _⟩
instance : Ag Try.prog 8 4 := ⟨_, Try.underlying8, rfl, by kernel_rfl⟩
instance : FieldAt Try.prog 8 0 0 := ⟨_, _, 0, Try.underlying8, rfl, rfl, by kernel_rfl⟩
instance : FieldAt Try.prog 8 1 1 := ⟨_, _, 0, Try.underlying8, rfl, rfl, by kernel_rfl⟩
instance : FieldAt Try.prog 8 2 2 := ⟨_, _, 0, Try.underlying8, rfl, rfl, by kernel_rfl⟩
instance : FieldAt Try.prog 8 3 3 := ⟨_, _, 0, Try.underlying8, rfl, rfl, by kernel_rfl⟩
instance : OffsT Try.prog 8 [(0, 1), (1, 1), (2, 1), (3, 1)] [.int .i64 0, .int .i64 0, .bool false, .int .u8 0] := ⟨(([(0, 1), (1, 1), (2, 1), (3, 1)] : List (Nat × Nat)).toArray[·]?), fun _ => by kernel_rfl, fun i p h => by simpa using h⟩
instance : ZeroT Try.prog 8 [.int .i64 0, .int .i64 0, .bool false, .int .u8 0] := ⟨_, show still Try.prog (zeroValue 8) = some (.agg (List.toArray [.int .i64 0, .int .i64 0, .bool false, .int .u8 0])) by kernel_rfl, .agg _⟩
instance : Sc Try.prog 9 := ⟨_, Try.underlying9, rfl, by kernel_rfl⟩
instance : ZeroT Try.prog 9 [.string .empty] := ⟨.string .empty, by kernel_rfl, .one rfl⟩
instance : StrT Try.prog 9 := ⟨Try.underlying9⟩
instance : Sc Try.prog 10 := ⟨_, Try.underlying10, rfl, by kernel_rfl⟩
instance : ZeroT Try.prog 10 [.string .empty] := ⟨.string .empty, by kernel_rfl, .one rfl⟩
instance : StrT Try.prog 10 := ⟨Try.underlying10⟩
instance : Sc Try.prog 11 := ⟨_, Try.underlying11, rfl, by kernel_rfl⟩
instance : ZeroT Try.prog 11 [.string .empty] := ⟨.string .empty, by kernel_rfl, .one rfl⟩
instance : StrT Try.prog 11 := ⟨Try.underlying11⟩
instance : Sc Try.prog 12 := ⟨_, Try.underlying12, rfl, by kernel_rfl⟩
instance : ZeroT Try.prog 12 [.int .u64 0] := ⟨.int .u64 0, by kernel_rfl, .one rfl⟩
instance : IntT Try.prog 12 .u64 := ⟨Try.underlying12⟩
instance : Ag Try.prog 13 2 := ⟨_, Try.underlying13, rfl, by kernel_rfl⟩
instance : FieldAt Try.prog 13 0 0 := ⟨_, _, 0, Try.underlying13, rfl, rfl, by kernel_rfl⟩
instance : FieldAt Try.prog 13 1 1 := ⟨_, _, 0, Try.underlying13, rfl, rfl, by kernel_rfl⟩
instance : OffsT Try.prog 13 [(0, 1), (1, 1)] [.string .empty, .int .u64 0] := ⟨(([(0, 1), (1, 1)] : List (Nat × Nat)).toArray[·]?), fun _ => by kernel_rfl, fun i p h => by simpa using h⟩
instance : ZeroT Try.prog 13 [.string .empty, .int .u64 0] := ⟨_, show still Try.prog (zeroValue 13) = some (.agg (List.toArray [.string .empty, .int .u64 0])) by kernel_rfl, .agg _⟩
instance : Ag Try.prog 14 2 := ⟨_, Try.underlying14, rfl, by kernel_rfl⟩
instance : FieldAt Try.prog 14 0 0 := ⟨_, _, 0, Try.underlying14, rfl, rfl, by kernel_rfl⟩
instance : FieldAt Try.prog 14 1 1 := ⟨_, _, 0, Try.underlying14, rfl, rfl, by kernel_rfl⟩
instance : OffsT Try.prog 14 [(0, 1), (1, 1)] [.string .empty, .int .u64 0] := ⟨(([(0, 1), (1, 1)] : List (Nat × Nat)).toArray[·]?), fun _ => by kernel_rfl, fun i p h => by simpa using h⟩
instance : ZeroT Try.prog 14 [.string .empty, .int .u64 0] := ⟨_, show still Try.prog (zeroValue 14) = some (.agg (List.toArray [.string .empty, .int .u64 0])) by kernel_rfl, .agg _⟩
instance : Sc Try.prog 15 := ⟨_, Try.underlying15, rfl, by kernel_rfl⟩
instance : ZeroT Try.prog 15 [.pointer none] := ⟨.pointer none, by kernel_rfl, .one rfl⟩
instance : Sc Try.prog 16 := ⟨_, Try.underlying16, rfl, by kernel_rfl⟩
instance : ZeroT Try.prog 16 [.pointer none] := ⟨.pointer none, by kernel_rfl, .one rfl⟩
instance : Sc Try.prog 17 := ⟨_, Try.underlying17, rfl, by kernel_rfl⟩
instance : ZeroT Try.prog 17 [.pointer none] := ⟨.pointer none, by kernel_rfl, .one rfl⟩
instance : Ag Try.prog 18 1 := ⟨_, Try.underlying18, rfl, by kernel_rfl⟩
instance : FieldAt Try.prog 18 0 0 := ⟨_, _, 0, Try.underlying18, rfl, rfl, by kernel_rfl⟩
instance : OffsT Try.prog 18 [(0, 1)] [.pointer none] := ⟨(([(0, 1)] : List (Nat × Nat)).toArray[·]?), fun _ => by kernel_rfl, fun i p h => by simpa using h⟩
instance : ZeroT Try.prog 18 [.pointer none] := ⟨_, show still Try.prog (zeroValue 18) = some (.agg (List.toArray [.pointer none])) by kernel_rfl, .agg _⟩
instance : Ag Try.prog 19 1 := ⟨_, Try.underlying19, rfl, by kernel_rfl⟩
instance : FieldAt Try.prog 19 0 0 := ⟨_, _, 0, Try.underlying19, rfl, rfl, by kernel_rfl⟩
instance : OffsT Try.prog 19 [(0, 1)] [.pointer none] := ⟨(([(0, 1)] : List (Nat × Nat)).toArray[·]?), fun _ => by kernel_rfl, fun i p h => by simpa using h⟩
instance : ZeroT Try.prog 19 [.pointer none] := ⟨_, show still Try.prog (zeroValue 19) = some (.agg (List.toArray [.pointer none])) by kernel_rfl, .agg _⟩
instance : Sc Try.prog 20 := ⟨_, Try.underlying20, rfl, by kernel_rfl⟩
instance : ZeroT Try.prog 20 [.nilIface] := ⟨.nilIface, by kernel_rfl, .one rfl⟩
instance : Sc Try.prog 21 := ⟨_, Try.underlying21, rfl, by kernel_rfl⟩
instance : ZeroT Try.prog 21 [.int .i32 0] := ⟨.int .i32 0, by kernel_rfl, .one rfl⟩
instance : IntT Try.prog 21 .i32 := ⟨Try.underlying21⟩
instance : Sc Try.prog 22 := ⟨_, Try.underlying22, rfl, by kernel_rfl⟩
instance : ZeroT Try.prog 22 [.slice none 0 0] := ⟨.slice none 0 0, by kernel_rfl, .one rfl⟩
instance : SliceT Try.prog 22 40 1 24 := ⟨Try.underlying22, by decide, by decide, .slice none 0 0, by kernel_rfl, by kernel_rfl⟩
instance : Sc Try.prog 23 := ⟨_, Try.underlying23, rfl, by kernel_rfl⟩
instance : ZeroT Try.prog 23 [.slice none 0 0] := ⟨.slice none 0 0, by kernel_rfl, .one rfl⟩
instance : SliceT Try.prog 23 88 2 32 := ⟨Try.underlying23, by decide, by decide, .agg #[.slice none 0 0, .bool false], by kernel_rfl, by kernel_rfl⟩
instance : Sc Try.prog 24 := ⟨_, Try.underlying24, rfl, by kernel_rfl⟩
instance : ZeroT Try.prog 24 [.int .i64 0] := ⟨.int .i64 0, by kernel_rfl, .one rfl⟩
instance : IntT Try.prog 24 .i64 := ⟨Try.underlying24⟩
instance : Sc Try.prog 26 := ⟨_, Try.underlying26, rfl, by kernel_rfl⟩
instance : ZeroT Try.prog 26 [.nilFunc] := ⟨.nilFunc, by kernel_rfl, .one rfl⟩
instance : Sc Try.prog 28 := ⟨_, Try.underlying28, rfl, by kernel_rfl⟩
instance : ZeroT Try.prog 28 [.nilFunc] := ⟨.nilFunc, by kernel_rfl, .one rfl⟩
instance : Sc Try.prog 29 := ⟨_, Try.underlying29, rfl, by kernel_rfl⟩
instance : ZeroT Try.prog 29 [.nilFunc] := ⟨.nilFunc, by kernel_rfl, .one rfl⟩
instance : Sc Try.prog 30 := ⟨_, Try.underlying30, rfl, by kernel_rfl⟩
instance : ZeroT Try.prog 30 [.nilFunc] := ⟨.nilFunc, by kernel_rfl, .one rfl⟩
instance : Sc Try.prog 31 := ⟨_, Try.underlying31, rfl, by kernel_rfl⟩
instance : ZeroT Try.prog 31 [.nilFunc] := ⟨.nilFunc, by kernel_rfl, .one rfl⟩
instance : Sc Try.prog 32 := ⟨_, Try.underlying32, rfl, by kernel_rfl⟩
instance : ZeroT Try.prog 32 [.nilFunc] := ⟨.nilFunc, by kernel_rfl, .one rfl⟩
instance : Sc Try.prog 33 := ⟨_, Try.underlying33, rfl, by kernel_rfl⟩
instance : ZeroT Try.prog 33 [.slice none 0 0] := ⟨.slice none 0 0, by kernel_rfl, .one rfl⟩
instance : SliceT Try.prog 33 104 4 32 := ⟨Try.underlying33, by decide, by decide, .agg #[.int .i64 0, .int .i64 0, .int .i64 0, .int .i64 0], by kernel_rfl, by kernel_rfl⟩
instance : Ag Try.prog 34 3 := ⟨_, Try.underlying34, rfl, by kernel_rfl⟩
instance : FieldAt Try.prog 34 0 0 := ⟨_, _, 0, Try.underlying34, rfl, rfl, by kernel_rfl⟩
instance : FieldAt Try.prog 34 1 1 := ⟨_, _, 0, Try.underlying34, rfl, rfl, by kernel_rfl⟩
instance : FieldAt Try.prog 34 2 2 := ⟨_, _, 0, Try.underlying34, rfl, rfl, by kernel_rfl⟩
instance : OffsT Try.prog 34 [(0, 1), (1, 1), (2, 1)] [.int .i64 0, .int .i64 0, .slice none 0 0] := ⟨(([(0, 1), (1, 1), (2, 1)] : List (Nat × Nat)).toArray[·]?), fun _ => by kernel_rfl, fun i p h => by simpa using h⟩
instance : ZeroT Try.prog 34 [.int .i64 0, .int .i64 0, .slice none 0 0] := ⟨_, show still Try.prog (zeroValue 34) = some (.agg (List.toArray [.int .i64 0, .int .i64 0, .slice none 0 0])) by kernel_rfl, .agg _⟩
instance : Ag Try.prog 35 3 := ⟨_, Try.underlying35, rfl, by kernel_rfl⟩
instance : FieldAt Try.prog 35 0 0 := ⟨_, _, 0, Try.underlying35, rfl, rfl, by kernel_rfl⟩
instance : FieldAt Try.prog 35 1 1 := ⟨_, _, 0, Try.underlying35, rfl, rfl, by kernel_rfl⟩
instance : FieldAt Try.prog 35 2 2 := ⟨_, _, 0, Try.underlying35, rfl, rfl, by kernel_rfl⟩
instance : OffsT Try.prog 35 [(0, 1), (1, 1), (2, 1)] [.int .i64 0, .int .i64 0, .slice none 0 0] := ⟨(([(0, 1), (1, 1), (2, 1)] : List (Nat × Nat)).toArray[·]?), fun _ => by kernel_rfl, fun i p h => by simpa using h⟩
instance : ZeroT Try.prog 35 [.int .i64 0, .int .i64 0, .slice none 0 0] := ⟨_, show still Try.prog (zeroValue 35) = some (.agg (List.toArray [.int .i64 0, .int .i64 0, .slice none 0 0])) by kernel_rfl, .agg _⟩
instance : Ag Try.prog 36 3 := ⟨_, Try.underlying36, rfl, by kernel_rfl⟩
instance : FieldAt Try.prog 36 0 0 := ⟨_, _, 0, Try.underlying36, rfl, rfl, by kernel_rfl⟩
instance : FieldAt Try.prog 36 1 1 := ⟨_, _, 0, Try.underlying36, rfl, rfl, by kernel_rfl⟩
instance : FieldAt Try.prog 36 2 2 := ⟨_, _, 0, Try.underlying36, rfl, rfl, by kernel_rfl⟩
instance : OffsT Try.prog 36 [(0, 1), (1, 1), (2, 1)] [.int .i64 0, .int .i64 0, .int .i64 0] := ⟨(([(0, 1), (1, 1), (2, 1)] : List (Nat × Nat)).toArray[·]?), fun _ => by kernel_rfl, fun i p h => by simpa using h⟩
instance : ZeroT Try.prog 36 [.int .i64 0, .int .i64 0, .int .i64 0] := ⟨_, show still Try.prog (zeroValue 36) = some (.agg (List.toArray [.int .i64 0, .int .i64 0, .int .i64 0])) by kernel_rfl, .agg _⟩
instance : Ag Try.prog 37 3 := ⟨_, Try.underlying37, rfl, by kernel_rfl⟩
instance : FieldAt Try.prog 37 0 0 := ⟨_, _, 0, Try.underlying37, rfl, rfl, by kernel_rfl⟩
instance : FieldAt Try.prog 37 1 1 := ⟨_, _, 0, Try.underlying37, rfl, rfl, by kernel_rfl⟩
instance : FieldAt Try.prog 37 2 2 := ⟨_, _, 0, Try.underlying37, rfl, rfl, by kernel_rfl⟩
instance : OffsT Try.prog 37 [(0, 1), (1, 1), (2, 1)] [.int .i64 0, .int .i64 0, .int .i64 0] := ⟨(([(0, 1), (1, 1), (2, 1)] : List (Nat × Nat)).toArray[·]?), fun _ => by kernel_rfl, fun i p h => by simpa using h⟩
instance : ZeroT Try.prog 37 [.int .i64 0, .int .i64 0, .int .i64 0] := ⟨_, show still Try.prog (zeroValue 37) = some (.agg (List.toArray [.int .i64 0, .int .i64 0, .int .i64 0])) by kernel_rfl, .agg _⟩
instance : Sc Try.prog 39 := ⟨_, Try.underlying39, rfl, by kernel_rfl⟩
instance : ZeroT Try.prog 39 [.nilFunc] := ⟨.nilFunc, by kernel_rfl, .one rfl⟩
instance : Sc Try.prog 40 := ⟨_, Try.underlying40, rfl, by kernel_rfl⟩
instance : ZeroT Try.prog 40 [.slice none 0 0] := ⟨.slice none 0 0, by kernel_rfl, .one rfl⟩
instance : SliceT Try.prog 40 3 1 8 := ⟨Try.underlying40, by decide, by decide, .int .i64 0, by kernel_rfl, by kernel_rfl⟩
instance : Sc Try.prog 42 := ⟨_, Try.underlying42, rfl, by kernel_rfl⟩
instance : ZeroT Try.prog 42 [.nilFunc] := ⟨.nilFunc, by kernel_rfl, .one rfl⟩
instance : Sc Try.prog 43 := ⟨_, Try.underlying43, rfl, by kernel_rfl⟩
instance : ZeroT Try.prog 43 [.nilFunc] := ⟨.nilFunc, by kernel_rfl, .one rfl⟩
instance : Sc Try.prog 44 := ⟨_, Try.underlying44, rfl, by kernel_rfl⟩
instance : ZeroT Try.prog 44 [.nilFunc] := ⟨.nilFunc, by kernel_rfl, .one rfl⟩
instance : Sc Try.prog 45 := ⟨_, Try.underlying45, rfl, by kernel_rfl⟩
instance : ZeroT Try.prog 45 [.nilFunc] := ⟨.nilFunc, by kernel_rfl, .one rfl⟩
instance : Sc Try.prog 46 := ⟨_, Try.underlying46, rfl, by kernel_rfl⟩
instance : ZeroT Try.prog 46 [.nilFunc] := ⟨.nilFunc, by kernel_rfl, .one rfl⟩
instance : Sc Try.prog 47 := ⟨_, Try.underlying47, rfl, by kernel_rfl⟩
instance : ZeroT Try.prog 47 [.nilFunc] := ⟨.nilFunc, by kernel_rfl, .one rfl⟩
instance : Sc Try.prog 48 := ⟨_, Try.underlying48, rfl, by kernel_rfl⟩
instance : ZeroT Try.prog 48 [.nilFunc] := ⟨.nilFunc, by kernel_rfl, .one rfl⟩
instance : Sc Try.prog 49 := ⟨_, Try.underlying49, rfl, by kernel_rfl⟩
instance : ZeroT Try.prog 49 [.nilFunc] := ⟨.nilFunc, by kernel_rfl, .one rfl⟩
instance : Sc Try.prog 50 := ⟨_, Try.underlying50, rfl, by kernel_rfl⟩
instance : ZeroT Try.prog 50 [.nilFunc] := ⟨.nilFunc, by kernel_rfl, .one rfl⟩
instance : Sc Try.prog 51 := ⟨_, Try.underlying51, rfl, by kernel_rfl⟩
instance : ZeroT Try.prog 51 [.nilFunc] := ⟨.nilFunc, by kernel_rfl, .one rfl⟩
instance : Sc Try.prog 52 := ⟨_, Try.underlying52, rfl, by kernel_rfl⟩
instance : ZeroT Try.prog 52 [.nilFunc] := ⟨.nilFunc, by kernel_rfl, .one rfl⟩
instance : Sc Try.prog 53 := ⟨_, Try.underlying53, rfl, by kernel_rfl⟩
instance : ZeroT Try.prog 53 [.nilFunc] := ⟨.nilFunc, by kernel_rfl, .one rfl⟩
instance : Sc Try.prog 54 := ⟨_, Try.underlying54, rfl, by kernel_rfl⟩
instance : ZeroT Try.prog 54 [.slice none 0 0] := ⟨.slice none 0 0, by kernel_rfl, .one rfl⟩
instance : SliceT Try.prog 54 9 1 16 := ⟨Try.underlying54, by decide, by decide, .string .empty, by kernel_rfl, by kernel_rfl⟩
instance : Sc Try.prog 56 := ⟨_, Try.underlying56, rfl, by kernel_rfl⟩
instance : ZeroT Try.prog 56 [.nilFunc] := ⟨.nilFunc, by kernel_rfl, .one rfl⟩
instance : Sc Try.prog 57 := ⟨_, Try.underlying57, rfl, by kernel_rfl⟩
instance : ZeroT Try.prog 57 [.nilFunc] := ⟨.nilFunc, by kernel_rfl, .one rfl⟩
instance : Sc Try.prog 58 := ⟨_, Try.underlying58, rfl, by kernel_rfl⟩
instance : ZeroT Try.prog 58 [.nilFunc] := ⟨.nilFunc, by kernel_rfl, .one rfl⟩
instance : Sc Try.prog 59 := ⟨_, Try.underlying59, rfl, by kernel_rfl⟩
instance : ZeroT Try.prog 59 [.int .u64 0] := ⟨.int .u64 0, by kernel_rfl, .one rfl⟩
instance : IntT Try.prog 59 .u64 := ⟨Try.underlying59⟩
instance : Ag Try.prog 60 4 := ⟨_, Try.underlying60, rfl, by kernel_rfl⟩
instance : ArrT Try.prog 60 4 59 1 := ⟨Try.underlying60, by kernel_rfl⟩
instance : OffsT Try.prog 60 (arrOffs 4 1) [.int .u64 0, .int .u64 0, .int .u64 0, .int .u64 0] := ⟨fun i => some (i * 1, 1), fun _ => by kernel_rfl, arrOffs_at 4 1⟩
instance : ZeroT Try.prog 60 [.int .u64 0, .int .u64 0, .int .u64 0, .int .u64 0] := ⟨_, show still Try.prog (zeroValue 60) = some (.agg (List.toArray [.int .u64 0, .int .u64 0, .int .u64 0, .int .u64 0])) by kernel_rfl, .agg _⟩
instance : Ag Try.prog 61 4 := ⟨_, Try.underlying61, rfl, by kernel_rfl⟩
instance : FieldAt Try.prog 61 0 0 := ⟨_, _, 3, Try.underlying61, rfl, rfl, by kernel_rfl⟩
instance : OffsT Try.prog 61 [(0, 4)] [.int .u64 0, .int .u64 0, .int .u64 0, .int .u64 0] := ⟨(([(0, 4)] : List (Nat × Nat)).toArray[·]?), fun _ => by kernel_rfl, fun i p h => by simpa using h⟩
instance : ZeroT Try.prog 61 [.int .u64 0, .int .u64 0, .int .u64 0, .int .u64 0] := ⟨_, show still Try.prog (zeroValue 61) = some (.agg (List.toArray [.int .u64 0, .int .u64 0, .int .u64 0, .int .u64 0])) by kernel_rfl, .agg _⟩
instance : Ag Try.prog 62 4 := ⟨_, Try.underlying62, rfl, by kernel_rfl⟩
instance : FieldAt Try.prog 62 0 0 := ⟨_, _, 3, Try.underlying62, rfl, rfl, by kernel_rfl⟩
instance : OffsT Try.prog 62 [(0, 4)] [.int .u64 0, .int .u64 0, .int .u64 0, .int .u64 0] := ⟨(([(0, 4)] : List (Nat × Nat)).toArray[·]?), fun _ => by kernel_rfl, fun i p h => by simpa using h⟩
instance : ZeroT Try.prog 62 [.int .u64 0, .int .u64 0, .int .u64 0, .int .u64 0] := ⟨_, show still Try.prog (zeroValue 62) = some (.agg (List.toArray [.int .u64 0, .int .u64 0, .int .u64 0, .int .u64 0])) by kernel_rfl, .agg _⟩
instance : Ag Try.prog 63 2 := ⟨_, Try.underlying63, rfl, by kernel_rfl⟩
instance : ArrT Try.prog 63 2 3 1 := ⟨Try.underlying63, by kernel_rfl⟩
instance : OffsT Try.prog 63 (arrOffs 2 1) [.int .i64 0, .int .i64 0] := ⟨fun i => some (i * 1, 1), fun _ => by kernel_rfl, arrOffs_at 2 1⟩
instance : ZeroT Try.prog 63 [.int .i64 0, .int .i64 0] := ⟨_, show still Try.prog (zeroValue 63) = some (.agg (List.toArray [.int .i64 0, .int .i64 0])) by kernel_rfl, .agg _⟩
instance : Ag Try.prog 64 9 := ⟨_, Try.underlying64, rfl, by kernel_rfl⟩
instance : FieldAt Try.prog 64 0 0 := ⟨_, _, 0, Try.underlying64, rfl, rfl, by kernel_rfl⟩
instance : FieldAt Try.prog 64 1 1 := ⟨_, _, 0, Try.underlying64, rfl, rfl, by kernel_rfl⟩
instance : FieldAt Try.prog 64 2 2 := ⟨_, _, 2, Try.underlying64, rfl, rfl, by kernel_rfl⟩
instance : FieldAt Try.prog 64 3 5 := ⟨_, _, 0, Try.underlying64, rfl, rfl, by kernel_rfl⟩
instance : FieldAt Try.prog 64 4 6 := ⟨_, _, 1, Try.underlying64, rfl, rfl, by kernel_rfl⟩
instance : FieldAt Try.prog 64 5 8 := ⟨_, _, 0, Try.underlying64, rfl, rfl, by kernel_rfl⟩
instance : OffsT Try.prog 64 [(0, 1), (1, 1), (2, 3), (5, 1), (6, 2), (8, 1)] [.int .i64 0, .int .i64 0, .int .i64 0, .int .i64 0, .int .i64 0, .bool false, .int .i64 0, .int .i64 0, .int .i64 0] := ⟨(([(0, 1), (1, 1), (2, 3), (5, 1), (6, 2), (8, 1)] : List (Nat × Nat)).toArray[·]?), fun _ => by kernel_rfl, fun i p h => by simpa using h⟩
instance : ZeroT Try.prog 64 [.int .i64 0, .int .i64 0, .int .i64 0, .int .i64 0, .int .i64 0, .bool false, .int .i64 0, .int .i64 0, .int .i64 0] := ⟨_, show still Try.prog (zeroValue 64) = some (.agg (List.toArray [.int .i64 0, .int .i64 0, .int .i64 0, .int .i64 0, .int .i64 0, .bool false, .int .i64 0, .int .i64 0, .int .i64 0])) by kernel_rfl, .agg _⟩
instance : Ag Try.prog 65 9 := ⟨_, Try.underlying65, rfl, by kernel_rfl⟩
instance : FieldAt Try.prog 65 0 0 := ⟨_, _, 0, Try.underlying65, rfl, rfl, by kernel_rfl⟩
instance : FieldAt Try.prog 65 1 1 := ⟨_, _, 0, Try.underlying65, rfl, rfl, by kernel_rfl⟩
instance : FieldAt Try.prog 65 2 2 := ⟨_, _, 2, Try.underlying65, rfl, rfl, by kernel_rfl⟩
instance : FieldAt Try.prog 65 3 5 := ⟨_, _, 0, Try.underlying65, rfl, rfl, by kernel_rfl⟩
instance : FieldAt Try.prog 65 4 6 := ⟨_, _, 1, Try.underlying65, rfl, rfl, by kernel_rfl⟩
instance : FieldAt Try.prog 65 5 8 := ⟨_, _, 0, Try.underlying65, rfl, rfl, by kernel_rfl⟩
instance : OffsT Try.prog 65 [(0, 1), (1, 1), (2, 3), (5, 1), (6, 2), (8, 1)] [.int .i64 0, .int .i64 0, .int .i64 0, .int .i64 0, .int .i64 0, .bool false, .int .i64 0, .int .i64 0, .int .i64 0] := ⟨(([(0, 1), (1, 1), (2, 3), (5, 1), (6, 2), (8, 1)] : List (Nat × Nat)).toArray[·]?), fun _ => by kernel_rfl, fun i p h => by simpa using h⟩
instance : ZeroT Try.prog 65 [.int .i64 0, .int .i64 0, .int .i64 0, .int .i64 0, .int .i64 0, .bool false, .int .i64 0, .int .i64 0, .int .i64 0] := ⟨_, show still Try.prog (zeroValue 65) = some (.agg (List.toArray [.int .i64 0, .int .i64 0, .int .i64 0, .int .i64 0, .int .i64 0, .bool false, .int .i64 0, .int .i64 0, .int .i64 0])) by kernel_rfl, .agg _⟩
instance : Sc Try.prog 66 := ⟨_, Try.underlying66, rfl, by kernel_rfl⟩
instance : ZeroT Try.prog 66 [.slice none 0 0] := ⟨.slice none 0 0, by kernel_rfl, .one rfl⟩
instance : SliceT Try.prog 66 128 1 24 := ⟨Try.underlying66, by decide, by decide, .agg #[.slice none 0 0], by kernel_rfl, by kernel_rfl⟩
instance : Ag Try.prog 67 33 := ⟨_, Try.underlying67, rfl, by kernel_rfl⟩
instance : FieldAt Try.prog 67 0 0 := ⟨_, _, 2, Try.underlying67, rfl, rfl, by kernel_rfl⟩
instance : FieldAt Try.prog 67 1 3 := ⟨_, _, 0, Try.underlying67, rfl, rfl, by kernel_rfl⟩
instance : FieldAt Try.prog 67 2 4 := ⟨_, _, 0, Try.underlying67, rfl, rfl, by kernel_rfl⟩
instance : FieldAt Try.prog 67 3 5 := ⟨_, _, 0, Try.underlying67, rfl, rfl, by kernel_rfl⟩
instance : FieldAt Try.prog 67 4 6 := ⟨_, _, 0, Try.underlying67, rfl, rfl, by kernel_rfl⟩
instance : FieldAt Try.prog 67 5 7 := ⟨_, _, 0, Try.underlying67, rfl, rfl, by kernel_rfl⟩
instance : FieldAt Try.prog 67 6 8 := ⟨_, _, 2, Try.underlying67, rfl, rfl, by kernel_rfl⟩
instance : FieldAt Try.prog 67 7 11 := ⟨_, _, 0, Try.underlying67, rfl, rfl, by kernel_rfl⟩
instance : FieldAt Try.prog 67 8 12 := ⟨_, _, 3, Try.underlying67, rfl, rfl, by kernel_rfl⟩
instance : FieldAt Try.prog 67 9 16 := ⟨_, _, 1, Try.underlying67, rfl, rfl, by kernel_rfl⟩
instance : FieldAt Try.prog 67 10 18 := ⟨_, _, 0, Try.underlying67, rfl, rfl, by kernel_rfl⟩
instance : FieldAt Try.prog 67 11 19 := ⟨_, _, 8, Try.underlying67, rfl, rfl, by kernel_rfl⟩
instance : FieldAt Try.prog 67 12 28 := ⟨_, _, 2, Try.underlying67, rfl, rfl, by kernel_rfl⟩
instance : FieldAt Try.prog 67 13 31 := ⟨_, _, 0, Try.underlying67, rfl, rfl, by kernel_rfl⟩
instance : FieldAt Try.prog 67 14 32 := ⟨_, _, 0, Try.underlying67, rfl, rfl, by kernel_rfl⟩
instance : OffsT Try.prog 67 [(0, 3), (3, 1), (4, 1), (5, 1), (6, 1), (7, 1), (8, 3), (11, 1), (12, 4), (16, 2), (18, 1), (19, 9), (28, 3), (31, 1), (32, 1)] [.int .i64 0, .int .i64 0, .slice none 0 0, .int .i64 0, .int .i64 0, .bool false, .int .i64 0, .int .i64 0, .int .i64 0, .int .i64 0, .int .i64 0, .int .i64 0, .int .u64 0, .int .u64 0, .int .u64 0, .int .u64 0, .int .i64 0, .int .i64 0, .int .i64 0, .int .i64 0, .int .i64 0, .int .i64 0, .int .i64 0, .int .i64 0, .bool false, .int .i64 0, .int .i64 0, .int .i64 0, .int .i64 0, .int .i64 0, .slice none 0 0, .string .empty, .slice none 0 0] := ⟨(([(0, 3), (3, 1), (4, 1), (5, 1), (6, 1), (7, 1), (8, 3), (11, 1), (12, 4), (16, 2), (18, 1), (19, 9), (28, 3), (31, 1), (32, 1)] : List (Nat × Nat)).toArray[·]?), fun _ => by kernel_rfl, fun i p h => by simpa using h⟩
instance : ZeroT Try.prog 67 [.int .i64 0, .int .i64 0, .slice none 0 0, .int .i64 0, .int .i64 0, .bool false, .int .i64 0, .int .i64 0, .int .i64 0, .int .i64 0, .int .i64 0, .int .i64 0, .int .u64 0, .int .u64 0, .int .u64 0, .int .u64 0, .int .i64 0, .int .i64 0, .int .i64 0, .int .i64 0, .int .i64 0, .int .i64 0, .int .i64 0, .int .i64 0, .bool false, .int .i64 0, .int .i64 0, .int .i64 0, .int .i64 0, .int .i64 0, .slice none 0 0, .string .empty, .slice none 0 0] := ⟨_, show still Try.prog (zeroValue 67) = some (.agg (List.toArray [.int .i64 0, .int .i64 0, .slice none 0 0, .int .i64 0, .int .i64 0, .bool false, .int .i64 0, .int .i64 0, .int .i64 0, .int .i64 0, .int .i64 0, .int .i64 0, .int .u64 0, .int .u64 0, .int .u64 0, .int .u64 0, .int .i64 0, .int .i64 0, .int .i64 0, .int .i64 0, .int .i64 0, .int .i64 0, .int .i64 0, .int .i64 0, .bool false, .int .i64 0, .int .i64 0, .int .i64 0, .int .i64 0, .int .i64 0, .slice none 0 0, .string .empty, .slice none 0 0])) by kernel_rfl, .agg _⟩
instance : Ag Try.prog 68 33 := ⟨_, Try.underlying68, rfl, by kernel_rfl⟩
instance : FieldAt Try.prog 68 0 0 := ⟨_, _, 2, Try.underlying68, rfl, rfl, by kernel_rfl⟩
instance : FieldAt Try.prog 68 1 3 := ⟨_, _, 0, Try.underlying68, rfl, rfl, by kernel_rfl⟩
instance : FieldAt Try.prog 68 2 4 := ⟨_, _, 0, Try.underlying68, rfl, rfl, by kernel_rfl⟩
instance : FieldAt Try.prog 68 3 5 := ⟨_, _, 0, Try.underlying68, rfl, rfl, by kernel_rfl⟩
instance : FieldAt Try.prog 68 4 6 := ⟨_, _, 0, Try.underlying68, rfl, rfl, by kernel_rfl⟩
instance : FieldAt Try.prog 68 5 7 := ⟨_, _, 0, Try.underlying68, rfl, rfl, by kernel_rfl⟩
instance : FieldAt Try.prog 68 6 8 := ⟨_, _, 2, Try.underlying68, rfl, rfl, by kernel_rfl⟩
instance : FieldAt Try.prog 68 7 11 := ⟨_, _, 0, Try.underlying68, rfl, rfl, by kernel_rfl⟩
instance : FieldAt Try.prog 68 8 12 := ⟨_, _, 3, Try.underlying68, rfl, rfl, by kernel_rfl⟩
instance : FieldAt Try.prog 68 9 16 := ⟨_, _, 1, Try.underlying68, rfl, rfl, by kernel_rfl⟩
instance : FieldAt Try.prog 68 10 18 := ⟨_, _, 0, Try.underlying68, rfl, rfl, by kernel_rfl⟩
instance : FieldAt Try.prog 68 11 19 := ⟨_, _, 8, Try.underlying68, rfl, rfl, by kernel_rfl⟩
instance : FieldAt Try.prog 68 12 28 := ⟨_, _, 2, Try.underlying68, rfl, rfl, by kernel_rfl⟩
instance : FieldAt Try.prog 68 13 31 := ⟨_, _, 0, Try.underlying68, rfl, rfl, by kernel_rfl⟩
instance : FieldAt Try.prog 68 14 32 := ⟨_, _, 0, Try.underlying68, rfl, rfl, by kernel_rfl⟩
instance : OffsT Try.prog 68 [(0, 3), (3, 1), (4, 1), (5, 1), (6, 1), (7, 1), (8, 3), (11, 1), (12, 4), (16, 2), (18, 1), (19, 9), (28, 3), (31, 1), (32, 1)] [.int .i64 0, .int .i64 0, .slice none 0 0, .int .i64 0, .int .i64 0, .bool false, .int .i64 0, .int .i64 0, .int .i64 0, .int .i64 0, .int .i64 0, .int .i64 0, .int .u64 0, .int .u64 0, .int .u64 0, .int .u64 0, .int .i64 0, .int .i64 0, .int .i64 0, .int .i64 0, .int .i64 0, .int .i64 0, .int .i64 0, .int .i64 0, .bool false, .int .i64 0, .int .i64 0, .int .i64 0, .int .i64 0, .int .i64 0, .slice none 0 0, .string .empty, .slice none 0 0] := ⟨(([(0, 3), (3, 1), (4, 1), (5, 1), (6, 1), (7, 1), (8, 3), (11, 1), (12, 4), (16, 2), (18, 1), (19, 9), (28, 3), (31, 1), (32, 1)] : List (Nat × Nat)).toArray[·]?), fun _ => by kernel_rfl, fun i p h => by simpa using h⟩
instance : ZeroT Try.prog 68 [.int .i64 0, .int .i64 0, .slice none 0 0, .int .i64 0, .int .i64 0, .bool false, .int .i64 0, .int .i64 0, .int .i64 0, .int .i64 0, .int .i64 0, .int .i64 0, .int .u64 0, .int .u64 0, .int .u64 0, .int .u64 0, .int .i64 0, .int .i64 0, .int .i64 0, .int .i64 0, .int .i64 0, .int .i64 0, .int .i64 0, .int .i64 0, .bool false, .int .i64 0, .int .i64 0, .int .i64 0, .int .i64 0, .int .i64 0, .slice none 0 0, .string .empty, .slice none 0 0] := ⟨_, show still Try.prog (zeroValue 68) = some (.agg (List.toArray [.int .i64 0, .int .i64 0, .slice none 0 0, .int .i64 0, .int .i64 0, .bool false, .int .i64 0, .int .i64 0, .int .i64 0, .int .i64 0, .int .i64 0, .int .i64 0, .int .u64 0, .int .u64 0, .int .u64 0, .int .u64 0, .int .i64 0, .int .i64 0, .int .i64 0, .int .i64 0, .int .i64 0, .int .i64 0, .int .i64 0, .int .i64 0, .bool false, .int .i64 0, .int .i64 0, .int .i64 0, .int .i64 0, .int .i64 0, .slice none 0 0, .string .empty, .slice none 0 0])) by kernel_rfl, .agg _⟩
instance : Sc Try.prog 69 := ⟨_, Try.underlying69, rfl, by kernel_rfl⟩
instance : ZeroT Try.prog 69 [.slice none 0 0] := ⟨.slice none 0 0, by kernel_rfl, .one rfl⟩
instance : SliceT Try.prog 69 74 2 16 := ⟨Try.underlying69, by decide, by decide, .agg #[.int .i64 0, .int .i64 0], by kernel_rfl, by kernel_rfl⟩
instance : Sc Try.prog 71 := ⟨_, Try.underlying71, rfl, by kernel_rfl⟩
instance : ZeroT Try.prog 71 [.nilFunc] := ⟨.nilFunc, by kernel_rfl, .one rfl⟩
instance : Sc Try.prog 72 := ⟨_, Try.underlying72, rfl, by kernel_rfl⟩
instance : ZeroT Try.prog 72 [.nilFunc] := ⟨.nilFunc, by kernel_rfl, .one rfl⟩
instance : Ag Try.prog 73 2 := ⟨_, Try.underlying73, rfl, by kernel_rfl⟩
instance : FieldAt Try.prog 73 0 0 := ⟨_, _, 0, Try.underlying73, rfl, rfl, by kernel_rfl⟩
instance : FieldAt Try.prog 73 1 1 := ⟨_, _, 0, Try.underlying73, rfl, rfl, by kernel_rfl⟩
instance : OffsT Try.prog 73 [(0, 1), (1, 1)] [.int .i64 0, .int .i64 0] := ⟨(([(0, 1), (1, 1)] : List (Nat × Nat)).toArray[·]?), fun _ => by kernel_rfl, fun i p h => by simpa using h⟩
instance : ZeroT Try.prog 73 [.int .i64 0, .int .i64 0] := ⟨_, show still Try.prog (zeroValue 73) = some (.agg (List.toArray [.int .i64 0, .int .i64 0])) by kernel_rfl, .agg _⟩
instance : Ag Try.prog 74 2 := ⟨_, Try.underlying74, rfl, by kernel_rfl⟩
instance : FieldAt Try.prog 74 0 0 := ⟨_, _, 0, Try.underlying74, rfl, rfl, by kernel_rfl⟩
instance : FieldAt Try.prog 74 1 1 := ⟨_, _, 0, Try.underlying74, rfl, rfl, by kernel_rfl⟩
instance : OffsT Try.prog 74 [(0, 1), (1, 1)] [.int .i64 0, .int .i64 0] := ⟨(([(0, 1), (1, 1)] : List (Nat × Nat)).toArray[·]?), fun _ => by kernel_rfl, fun i p h => by simpa using h⟩
instance : ZeroT Try.prog 74 [.int .i64 0, .int .i64 0] := ⟨_, show still Try.prog (zeroValue 74) = some (.agg (List.toArray [.int .i64 0, .int .i64 0])) by kernel_rfl, .agg _⟩
instance : Sc Try.prog 75 := ⟨_, Try.underlying75, rfl, by kernel_rfl⟩
instance : ZeroT Try.prog 75 [.nilFunc] := ⟨.nilFunc, by kernel_rfl, .one rfl⟩
instance : Sc Try.prog 76 := ⟨_, Try.underlying76, rfl, by kernel_rfl⟩
instance : ZeroT Try.prog 76 [.slice none 0 0] := ⟨.slice none 0 0, by kernel_rfl, .one rfl⟩
instance : SliceT Try.prog 76 33 1 24 := ⟨Try.underlying76, by decide, by decide, .slice none 0 0, by kernel_rfl, by kernel_rfl⟩
instance : Sc Try.prog 78 := ⟨_, Try.underlying78, rfl, by kernel_rfl⟩
instance : ZeroT Try.prog 78 [.nilFunc] := ⟨.nilFunc, by kernel_rfl, .one rfl⟩
instance : Sc Try.prog 79 := ⟨_, Try.underlying79, rfl, by kernel_rfl⟩
instance : ZeroT Try.prog 79 [.nilFunc] := ⟨.nilFunc, by kernel_rfl, .one rfl⟩
instance : Sc Try.prog 80 := ⟨_, Try.underlying80, rfl, by kernel_rfl⟩
instance : ZeroT Try.prog 80 [.nilFunc] := ⟨.nilFunc, by kernel_rfl, .one rfl⟩
instance : Sc Try.prog 81 := ⟨_, Try.underlying81, rfl, by kernel_rfl⟩
instance : ZeroT Try.prog 81 [.nilFunc] := ⟨.nilFunc, by kernel_rfl, .one rfl⟩
instance : Sc Try.prog 82 := ⟨_, Try.underlying82, rfl, by kernel_rfl⟩
instance : ZeroT Try.prog 82 [.nilFunc] := ⟨.nilFunc, by kernel_rfl, .one rfl⟩
instance : Sc Try.prog 83 := ⟨_, Try.underlying83, rfl, by kernel_rfl⟩
instance : ZeroT Try.prog 83 [.nilFunc] := ⟨.nilFunc, by kernel_rfl, .one rfl⟩
instance : Sc Try.prog 84 := ⟨_, Try.underlying84, rfl, by kernel_rfl⟩
instance : ZeroT Try.prog 84 [.nilFunc] := ⟨.nilFunc, by kernel_rfl, .one rfl⟩
instance : Sc Try.prog 86 := ⟨_, Try.underlying86, rfl, by kernel_rfl⟩
instance : ZeroT Try.prog 86 [.nilFunc] := ⟨.nilFunc, by kernel_rfl, .one rfl⟩
instance : Ag Try.prog 87 2 := ⟨_, Try.underlying87, rfl, by kernel_rfl⟩
instance : FieldAt Try.prog 87 0 0 := ⟨_, _, 0, Try.underlying87, rfl, rfl, by kernel_rfl⟩
instance : FieldAt Try.prog 87 1 1 := ⟨_, _, 0, Try.underlying87, rfl, rfl, by kernel_rfl⟩
instance : OffsT Try.prog 87 [(0, 1), (1, 1)] [.slice none 0 0, .bool false] := ⟨(([(0, 1), (1, 1)] : List (Nat × Nat)).toArray[·]?), fun _ => by kernel_rfl, fun i p h => by simpa using h⟩
instance : ZeroT Try.prog 87 [.slice none 0 0, .bool false] := ⟨_, show still Try.prog (zeroValue 87) = some (.agg (List.toArray [.slice none 0 0, .bool false])) by kernel_rfl, .agg _⟩
instance : Ag Try.prog 88 2 := ⟨_, Try.underlying88, rfl, by kernel_rfl⟩
instance : FieldAt Try.prog 88 0 0 := ⟨_, _, 0, Try.underlying88, rfl, rfl, by kernel_rfl⟩
instance : FieldAt Try.prog 88 1 1 := ⟨_, _, 0, Try.underlying88, rfl, rfl, by kernel_rfl⟩
instance : OffsT Try.prog 88 [(0, 1), (1, 1)] [.slice none 0 0, .bool false] := ⟨(([(0, 1), (1, 1)] : List (Nat × Nat)).toArray[·]?), fun _ => by kernel_rfl, fun i p h => by simpa using h⟩
instance : ZeroT Try.prog 88 [.slice none 0 0, .bool false] := ⟨_, show still Try.prog (zeroValue 88) = some (.agg (List.toArray [.slice none 0 0, .bool false])) by kernel_rfl, .agg _⟩
instance : Sc Try.prog 89 := ⟨_, Try.underlying89, rfl, by kernel_rfl⟩
instance : ZeroT Try.prog 89 [.nilFunc] := ⟨.nilFunc, by kernel_rfl, .one rfl⟩
instance : Sc Try.prog 90 := ⟨_, Try.underlying90, rfl, by kernel_rfl⟩
instance : ZeroT Try.prog 90 [.nilFunc] := ⟨.nilFunc, by kernel_rfl, .one rfl⟩
instance : Sc Try.prog 91 := ⟨_, Try.underlying91, rfl, by kernel_rfl⟩
instance : ZeroT Try.prog 91 [.nilFunc] := ⟨.nilFunc, by kernel_rfl, .one rfl⟩
instance : Sc Try.prog 92 := ⟨_, Try.underlying92, rfl, by kernel_rfl⟩
instance : ZeroT Try.prog 92 [.nilFunc] := ⟨.nilFunc, by kernel_rfl, .one rfl⟩
instance : Sc Try.prog 93 := ⟨_, Try.underlying93, rfl, by kernel_rfl⟩
instance : ZeroT Try.prog 93 [.nilFunc] := ⟨.nilFunc, by kernel_rfl, .one rfl⟩
instance : Sc Try.prog 94 := ⟨_, Try.underlying94, rfl, by kernel_rfl⟩
instance : ZeroT Try.prog 94 [.nilFunc] := ⟨.nilFunc, by kernel_rfl, .one rfl⟩
instance : Sc Try.prog 95 := ⟨_, Try.underlying95, rfl, by kernel_rfl⟩
instance : ZeroT Try.prog 95 [.nilFunc] := ⟨.nilFunc, by kernel_rfl, .one rfl⟩
instance : Sc Try.prog 96 := ⟨_, Try.underlying96, rfl, by kernel_rfl⟩
instance : ZeroT Try.prog 96 [.nilFunc] := ⟨.nilFunc, by kernel_rfl, .one rfl⟩
instance : Sc Try.prog 97 := ⟨_, Try.underlying97, rfl, by kernel_rfl⟩
instance : ZeroT Try.prog 97 [.nilFunc] := ⟨.nilFunc, by kernel_rfl, .one rfl⟩
instance : Sc Try.prog 98 := ⟨_, Try.underlying98, rfl, by kernel_rfl⟩
instance : ZeroT Try.prog 98 [.nilFunc] := ⟨.nilFunc, by kernel_rfl, .one rfl⟩
instance : Sc Try.prog 99 := ⟨_, Try.underlying99, rfl, by kernel_rfl⟩
instance : ZeroT Try.prog 99 [.nilFunc] := ⟨.nilFunc, by kernel_rfl, .one rfl⟩
instance : Sc Try.prog 100 := ⟨_, Try.underlying100, rfl, by kernel_rfl⟩
instance : ZeroT Try.prog 100 [.nilFunc] := ⟨.nilFunc, by kernel_rfl, .one rfl⟩
instance : Sc Try.prog 101 := ⟨_, Try.underlying101, rfl, by kernel_rfl⟩
instance : ZeroT Try.prog 101 [.nilFunc] := ⟨.nilFunc, by kernel_rfl, .one rfl⟩
instance : Sc Try.prog 102 := ⟨_, Try.underlying102, rfl, by kernel_rfl⟩
instance : ZeroT Try.prog 102 [.nilFunc] := ⟨.nilFunc, by kernel_rfl, .one rfl⟩
instance : Ag Try.prog 103 4 := ⟨_, Try.underlying103, rfl, by kernel_rfl⟩
instance : FieldAt Try.prog 103 0 0 := ⟨_, _, 0, Try.underlying103, rfl, rfl, by kernel_rfl⟩
instance : FieldAt Try.prog 103 1 1 := ⟨_, _, 2, Try.underlying103, rfl, rfl, by kernel_rfl⟩
instance : OffsT Try.prog 103 [(0, 1), (1, 3)] [.int .i64 0, .int .i64 0, .int .i64 0, .int .i64 0] := ⟨(([(0, 1), (1, 3)] : List (Nat × Nat)).toArray[·]?), fun _ => by kernel_rfl, fun i p h => by simpa using h⟩
instance : ZeroT Try.prog 103 [.int .i64 0, .int .i64 0, .int .i64 0, .int .i64 0] := ⟨_, show still Try.prog (zeroValue 103) = some (.agg (List.toArray [.int .i64 0, .int .i64 0, .int .i64 0, .int .i64 0])) by kernel_rfl, .agg _⟩
instance : Ag Try.prog 104 4 := ⟨_, Try.underlying104, rfl, by kernel_rfl⟩
instance : FieldAt Try.prog 104 0 0 := ⟨_, _, 0, Try.underlying104, rfl, rfl, by kernel_rfl⟩
instance : FieldAt Try.prog 104 1 1 := ⟨_, _, 2, Try.underlying104, rfl, rfl, by kernel_rfl⟩
instance : OffsT Try.prog 104 [(0, 1), (1, 3)] [.int .i64 0, .int .i64 0, .int .i64 0, .int .i64 0] := ⟨(([(0, 1), (1, 3)] : List (Nat × Nat)).toArray[·]?), fun _ => by kernel_rfl, fun i p h => by simpa using h⟩
instance : ZeroT Try.prog 104 [.int .i64 0, .int .i64 0, .int .i64 0, .int .i64 0] := ⟨_, show still Try.prog (zeroValue 104) = some (.agg (List.toArray [.int .i64 0, .int .i64 0, .int .i64 0, .int .i64 0])) by kernel_rfl, .agg _⟩
instance : Sc Try.prog 105 := ⟨_, Try.underlying105, rfl, by kernel_rfl⟩
instance : ZeroT Try.prog 105 [.nilFunc] := ⟨.nilFunc, by kernel_rfl, .one rfl⟩
instance : Sc Try.prog 106 := ⟨_, Try.underlying106, rfl, by kernel_rfl⟩
instance : ZeroT Try.prog 106 [.nilFunc] := ⟨.nilFunc, by kernel_rfl, .one rfl⟩
instance : Sc Try.prog 107 := ⟨_, Try.underlying107, rfl, by kernel_rfl⟩
instance : ZeroT Try.prog 107 [.nilFunc] := ⟨.nilFunc, by kernel_rfl, .one rfl⟩
instance : Sc Try.prog 108 := ⟨_, Try.underlying108, rfl, by kernel_rfl⟩
instance : ZeroT Try.prog 108 [.nilFunc] := ⟨.nilFunc, by kernel_rfl, .one rfl⟩
instance : Sc Try.prog 109 := ⟨_, Try.underlying109, rfl, by kernel_rfl⟩
instance : ZeroT Try.prog 109 [.nilFunc] := ⟨.nilFunc, by kernel_rfl, .one rfl⟩
instance : Sc Try.prog 110 := ⟨_, Try.underlying110, rfl, by kernel_rfl⟩
instance : ZeroT Try.prog 110 [.slice none 0 0] := ⟨.slice none 0 0, by kernel_rfl, .one rfl⟩
instance : SliceT Try.prog 110 5 1 1 := ⟨Try.underlying110, by decide, by decide, .int .u8 0, by kernel_rfl, by kernel_rfl⟩
instance : Sc Try.prog 111 := ⟨_, Try.underlying111, rfl, by kernel_rfl⟩
instance : ZeroT Try.prog 111 [.nilFunc] := ⟨.nilFunc, by kernel_rfl, .one rfl⟩
instance : Sc Try.prog 112 := ⟨_, Try.underlying112, rfl, by kernel_rfl⟩
instance : ZeroT Try.prog 112 [.nilFunc] := ⟨.nilFunc, by kernel_rfl, .one rfl⟩
instance : Sc Try.prog 113 := ⟨_, Try.underlying113, rfl, by kernel_rfl⟩
instance : ZeroT Try.prog 113 [.nilFunc] := ⟨.nilFunc, by kernel_rfl, .one rfl⟩
instance : Sc Try.prog 114 := ⟨_, Try.underlying114, rfl, by kernel_rfl⟩
instance : ZeroT Try.prog 114 [.nilFunc] := ⟨.nilFunc, by kernel_rfl, .one rfl⟩
instance : Sc Try.prog 115 := ⟨_, Try.underlying115, rfl, by kernel_rfl⟩
instance : ZeroT Try.prog 115 [.nilFunc] := ⟨.nilFunc, by kernel_rfl, .one rfl⟩
instance : Sc Try.prog 116 := ⟨_, Try.underlying116, rfl, by kernel_rfl⟩
instance : ZeroT Try.prog 116 [.nilFunc] := ⟨.nilFunc, by kernel_rfl, .one rfl⟩
instance : Sc Try.prog 117 := ⟨_, Try.underlying117, rfl, by kernel_rfl⟩
instance : ZeroT Try.prog 117 [.nilFunc] := ⟨.nilFunc, by kernel_rfl, .one rfl⟩
instance : Sc Try.prog 118 := ⟨_, Try.underlying118, rfl, by kernel_rfl⟩
instance : ZeroT Try.prog 118 [.nilFunc] := ⟨.nilFunc, by kernel_rfl, .one rfl⟩
instance : Sc Try.prog 119 := ⟨_, Try.underlying119, rfl, by kernel_rfl⟩
instance : ZeroT Try.prog 119 [.nilFunc] := ⟨.nilFunc, by kernel_rfl, .one rfl⟩
instance : Sc Try.prog 120 := ⟨_, Try.underlying120, rfl, by kernel_rfl⟩
instance : ZeroT Try.prog 120 [.nilFunc] := ⟨.nilFunc, by kernel_rfl, .one rfl⟩
instance : Sc Try.prog 121 := ⟨_, Try.underlying121, rfl, by kernel_rfl⟩
instance : ZeroT Try.prog 121 [.nilFunc] := ⟨.nilFunc, by kernel_rfl, .one rfl⟩
instance : Sc Try.prog 122 := ⟨_, Try.underlying122, rfl, by kernel_rfl⟩
instance : ZeroT Try.prog 122 [.nilFunc] := ⟨.nilFunc, by kernel_rfl, .one rfl⟩
instance : Sc Try.prog 123 := ⟨_, Try.underlying123, rfl, by kernel_rfl⟩
instance : ZeroT Try.prog 123 [.nilFunc] := ⟨.nilFunc, by kernel_rfl, .one rfl⟩
instance : Sc Try.prog 124 := ⟨_, Try.underlying124, rfl, by kernel_rfl⟩
instance : ZeroT Try.prog 124 [.nilFunc] := ⟨.nilFunc, by kernel_rfl, .one rfl⟩
instance : Sc Try.prog 125 := ⟨_, Try.underlying125, rfl, by kernel_rfl⟩
instance : ZeroT Try.prog 125 [.nilFunc] := ⟨.nilFunc, by kernel_rfl, .one rfl⟩
instance : Sc Try.prog 126 := ⟨_, Try.underlying126, rfl, by kernel_rfl⟩
instance : ZeroT Try.prog 126 [.nilFunc] := ⟨.nilFunc, by kernel_rfl, .one rfl⟩
instance : Ag Try.prog 127 1 := ⟨_, Try.underlying127, rfl, by kernel_rfl⟩
instance : FieldAt Try.prog 127 0 0 := ⟨_, _, 0, Try.underlying127, rfl, rfl, by kernel_rfl⟩
instance : OffsT Try.prog 127 [(0, 1)] [.slice none 0 0] := ⟨(([(0, 1)] : List (Nat × Nat)).toArray[·]?), fun _ => by kernel_rfl, fun i p h => by simpa using h⟩
instance : ZeroT Try.prog 127 [.slice none 0 0] := ⟨_, show still Try.prog (zeroValue 127) = some (.agg (List.toArray [.slice none 0 0])) by kernel_rfl, .agg _⟩
instance : Ag Try.prog 128 1 := ⟨_, Try.underlying128, rfl, by kernel_rfl⟩
instance : FieldAt Try.prog 128 0 0 := ⟨_, _, 0, Try.underlying128, rfl, rfl, by kernel_rfl⟩
instance : OffsT Try.prog 128 [(0, 1)] [.slice none 0 0] := ⟨(([(0, 1)] : List (Nat × Nat)).toArray[·]?), fun _ => by kernel_rfl, fun i p h => by simpa using h⟩
instance : ZeroT Try.prog 128 [.slice none 0 0] := ⟨_, show still Try.prog (zeroValue 128) = some (.agg (List.toArray [.slice none 0 0])) by kernel_rfl, .agg _⟩
instance : Ag Try.prog 129 4 := ⟨_, Try.underlying129, rfl, by kernel_rfl⟩
instance : ArrT Try.prog 129 2 74 2 := ⟨Try.underlying129, by kernel_rfl⟩
instance : OffsT Try.prog 129 (arrOffs 2 2) [.int .i64 0, .int .i64 0, .int .i64 0, .int .i64 0] := ⟨fun i => some (i * 2, 2), fun _ => by kernel_rfl, arrOffs_at 2 2⟩
instance : ZeroT Try.prog 129 [.int .i64 0, .int .i64 0, .int .i64 0, .int .i64 0] := ⟨_, show still Try.prog (zeroValue 129) = some (.agg (List.toArray [.int .i64 0, .int .i64 0, .int .i64 0, .int .i64 0])) by kernel_rfl, .agg _⟩
instance : Sc Try.prog 130 := ⟨_, Try.underlying130, rfl, by kernel_rfl⟩
instance : ZeroT Try.prog 130 [.nilFunc] := ⟨.nilFunc, by kernel_rfl, .one rfl⟩
instance : Sc Try.prog 131 := ⟨_, Try.underlying131, rfl, by kernel_rfl⟩
instance : ZeroT Try.prog 131 [.nilFunc] := ⟨.nilFunc, by kernel_rfl, .one rfl⟩
instance : Sc Try.prog 132 := ⟨_, Try.underlying132, rfl, by kernel_rfl⟩
instance : ZeroT Try.prog 132 [.nilFunc] := ⟨.nilFunc, by kernel_rfl, .one rfl⟩
instance : Sc Try.prog 133 := ⟨_, Try.underlying133, rfl, by kernel_rfl⟩
instance : ZeroT Try.prog 133 [.nilFunc] := ⟨.nilFunc, by kernel_rfl, .one rfl⟩
instance : Sc Try.prog 134 := ⟨_, Try.underlying134, rfl, by kernel_rfl⟩
instance : ZeroT Try.prog 134 [.nilFunc] := ⟨.nilFunc, by kernel_rfl, .one rfl⟩
instance : Sc Try.prog 135 := ⟨_, Try.underlying135, rfl, by kernel_rfl⟩
instance : ZeroT Try.prog 135 [.nilFunc] := ⟨.nilFunc, by kernel_rfl, .one rfl⟩
instance : Sc Try.prog 136 := ⟨_, Try.underlying136, rfl, by kernel_rfl⟩
instance : ZeroT Try.prog 136 [.nilFunc] := ⟨.nilFunc, by kernel_rfl, .one rfl⟩
instance : Sc Try.prog 137 := ⟨_, Try.underlying137, rfl, by kernel_rfl⟩
instance : ZeroT Try.prog 137 [.nilFunc] := ⟨.nilFunc, by kernel_rfl, .one rfl⟩
instance : Sc Try.prog 138 := ⟨_, Try.underlying138, rfl, by kernel_rfl⟩
instance : ZeroT Try.prog 138 [.nilFunc] := ⟨.nilFunc, by kernel_rfl, .one rfl⟩
instance : Sc Try.prog 140 := ⟨_, Try.underlying140, rfl, by kernel_rfl⟩
instance : ZeroT Try.prog 140 [.nilFunc] := ⟨.nilFunc, by kernel_rfl, .one rfl⟩
instance : Sc Try.prog 141 := ⟨_, Try.underlying141, rfl, by kernel_rfl⟩
instance : ZeroT Try.prog 141 [.slice none 0 0] := ⟨.slice none 0 0, by kernel_rfl, .one rfl⟩
instance : SliceT Try.prog 141 63 2 16 := ⟨Try.underlying141, by decide, by decide, .agg #[.int .i64 0, .int .i64 0], by kernel_rfl, by kernel_rfl⟩
instance : Sc Try.prog 142 := ⟨_, Try.underlying142, rfl, by kernel_rfl⟩
instance : ZeroT Try.prog 142 [.nilFunc] := ⟨.nilFunc, by kernel_rfl, .one rfl⟩
instance : Sc Try.prog 143 := ⟨_, Try.underlying143, rfl, by kernel_rfl⟩
instance : ZeroT Try.prog 143 [.nilFunc] := ⟨.nilFunc, by kernel_rfl, .one rfl⟩
instance : Sc Try.prog 144 := ⟨_, Try.underlying144, rfl, by kernel_rfl⟩
instance : ZeroT Try.prog 144 [.nilFunc] := ⟨.nilFunc, by kernel_rfl, .one rfl⟩
instance : Sc Try.prog 146 := ⟨_, Try.underlying146, rfl, by kernel_rfl⟩
instance : ZeroT Try.prog 146 [.nilFunc] := ⟨.nilFunc, by kernel_rfl, .one rfl⟩
instance : Sc Try.prog 147 := ⟨_, Try.underlying147, rfl, by kernel_rfl⟩
instance : ZeroT Try.prog 147 [.nilFunc] := ⟨.nilFunc, by kernel_rfl, .one rfl⟩
instance : Sc Try.prog 148 := ⟨_, Try.underlying148, rfl, by kernel_rfl⟩
instance : ZeroT Try.prog 148 [.int .u32 0] := ⟨.int .u32 0, by kernel_rfl, .one rfl⟩
instance : IntT Try.prog 148 .u32 := ⟨Try.underlying148⟩
instance : Sc Try.prog 149 := ⟨_, Try.underlying149, rfl, by kernel_rfl⟩
instance : ZeroT Try.prog 149 [.nilFunc] := ⟨.nilFunc, by kernel_rfl, .one rfl⟩
instance : Sc Try.prog 150 := ⟨_, Try.underlying150, rfl, by kernel_rfl⟩
instance : ZeroT Try.prog 150 [.pointer none] := ⟨.pointer none, by kernel_rfl, .one rfl⟩
instance : Ag Try.prog 151 2 := ⟨_, Try.underlying151, rfl, by kernel_rfl⟩
instance : FieldAt Try.prog 151 0 0 := ⟨_, _, 0, Try.underlying151, rfl, rfl, by kernel_rfl⟩
instance : FieldAt Try.prog 151 1 1 := ⟨_, _, 0, Try.underlying151, rfl, rfl, by kernel_rfl⟩
instance : OffsT Try.prog 151 [(0, 1), (1, 1)] [.pointer none, .slice none 0 0] := ⟨(([(0, 1), (1, 1)] : List (Nat × Nat)).toArray[·]?), fun _ => by kernel_rfl, fun i p h => by simpa using h⟩
instance : ZeroT Try.prog 151 [.pointer none, .slice none 0 0] := ⟨_, show still Try.prog (zeroValue 151) = some (.agg (List.toArray [.pointer none, .slice none 0 0])) by kernel_rfl, .agg _⟩
instance : Ag Try.prog 152 2 := ⟨_, Try.underlying152, rfl, by kernel_rfl⟩
instance : FieldAt Try.prog 152 0 0 := ⟨_, _, 0, Try.underlying152, rfl, rfl, by kernel_rfl⟩
instance : FieldAt Try.prog 152 1 1 := ⟨_, _, 0, Try.underlying152, rfl, rfl, by kernel_rfl⟩
instance : OffsT Try.prog 152 [(0, 1), (1, 1)] [.pointer none, .slice none 0 0] := ⟨(([(0, 1), (1, 1)] : List (Nat × Nat)).toArray[·]?), fun _ => by kernel_rfl, fun i p h => by simpa using h⟩
instance : ZeroT Try.prog 152 [.pointer none, .slice none 0 0] := ⟨_, show still Try.prog (zeroValue 152) = some (.agg (List.toArray [.pointer none, .slice none 0 0])) by kernel_rfl, .agg _⟩
instance : Sc Try.prog 153 := ⟨_, Try.underlying153, rfl, by kernel_rfl⟩
instance : ZeroT Try.prog 153 [.nilFunc] := ⟨.nilFunc, by kernel_rfl, .one rfl⟩
instance : Sc Try.prog 154 := ⟨_, Try.underlying154, rfl, by kernel_rfl⟩
instance : ZeroT Try.prog 154 [.nilIface] := ⟨.nilIface, by kernel_rfl, .one rfl⟩
instance : Sc Try.prog 155 := ⟨_, Try.underlying155, rfl, by kernel_rfl⟩
instance : ZeroT Try.prog 155 [.nilIface] := ⟨.nilIface, by kernel_rfl, .one rfl⟩
instance : Sc Try.prog 157 := ⟨_, Try.underlying157, rfl, by kernel_rfl⟩
instance : ZeroT Try.prog 157 [.nilFunc] := ⟨.nilFunc, by kernel_rfl, .one rfl⟩
instance : Sc Try.prog 158 := ⟨_, Try.underlying158, rfl, by kernel_rfl⟩
instance : ZeroT Try.prog 158 [.nilFunc] := ⟨.nilFunc, by kernel_rfl, .one rfl⟩
instance : Sc Try.prog 159 := ⟨_, Try.underlying159, rfl, by kernel_rfl⟩
instance : ZeroT Try.prog 159 [.nilFunc] := ⟨.nilFunc, by kernel_rfl, .one rfl⟩
instance : Sc Try.prog 160 := ⟨_, Try.underlying160, rfl, by kernel_rfl⟩
instance : ZeroT Try.prog 160 [.nilFunc] := ⟨.nilFunc, by kernel_rfl, .one rfl⟩
instance : Sc Try.prog 161 := ⟨_, Try.underlying161, rfl, by kernel_rfl⟩
instance : ZeroT Try.prog 161 [.nilFunc] := ⟨.nilFunc, by kernel_rfl, .one rfl⟩
instance : Sc Try.prog 162 := ⟨_, Try.underlying162, rfl, by kernel_rfl⟩
instance : ZeroT Try.prog 162 [.nilFunc] := ⟨.nilFunc, by kernel_rfl, .one rfl⟩
instance : Sc Try.prog 163 := ⟨_, Try.underlying163, rfl, by kernel_rfl⟩
instance : ZeroT Try.prog 163 [.nilFunc] := ⟨.nilFunc, by kernel_rfl, .one rfl⟩
instance : Sc Try.prog 164 := ⟨_, Try.underlying164, rfl, by kernel_rfl⟩
instance : ZeroT Try.prog 164 [.nilFunc] := ⟨.nilFunc, by kernel_rfl, .one rfl⟩
instance : Sc Try.prog 165 := ⟨_, Try.underlying165, rfl, by kernel_rfl⟩
instance : ZeroT Try.prog 165 [.nilFunc] := ⟨.nilFunc, by kernel_rfl, .one rfl⟩
instance : Sc Try.prog 166 := ⟨_, Try.underlying166, rfl, by kernel_rfl⟩
instance : ZeroT Try.prog 166 [.nilFunc] := ⟨.nilFunc, by kernel_rfl, .one rfl⟩
instance : Sc Try.prog 167 := ⟨_, Try.underlying167, rfl, by kernel_rfl⟩
instance : ZeroT Try.prog 167 [.nilFunc] := ⟨.nilFunc, by kernel_rfl, .one rfl⟩
instance : Sc Try.prog 168 := ⟨_, Try.underlying168, rfl, by kernel_rfl⟩
instance : ZeroT Try.prog 168 [.nilFunc] := ⟨.nilFunc, by kernel_rfl, .one rfl⟩
instance : Ag Try.prog 169 12 := ⟨_, Try.underlying169, rfl, by kernel_rfl⟩
instance : ArrT Try.prog 169 6 63 2 := ⟨Try.underlying169, by kernel_rfl⟩
instance : OffsT Try.prog 169 (arrOffs 6 2) [.int .i64 0, .int .i64 0, .int .i64 0, .int .i64 0, .int .i64 0, .int .i64 0, .int .i64 0, .int .i64 0, .int .i64 0, .int .i64 0, .int .i64 0, .int .i64 0] := ⟨fun i => some (i * 2, 2), fun _ => by kernel_rfl, arrOffs_at 6 2⟩
instance : ZeroT Try.prog 169 [.int .i64 0, .int .i64 0, .int .i64 0, .int .i64 0, .int .i64 0, .int .i64 0, .int .i64 0, .int .i64 0, .int .i64 0, .int .i64 0, .int .i64 0, .int .i64 0] := ⟨_, show still Try.prog (zeroValue 169) = some (.agg (List.toArray [.int .i64 0, .int .i64 0, .int .i64 0, .int .i64 0, .int .i64 0, .int .i64 0, .int .i64 0, .int .i64 0, .int .i64 0, .int .i64 0, .int .i64 0, .int .i64 0])) by kernel_rfl, .agg _⟩
instance : Ag Try.prog 170 24 := ⟨_, Try.underlying170, rfl, by kernel_rfl⟩
instance : ArrT Try.prog 170 12 63 2 := ⟨Try.underlying170, by kernel_rfl⟩
instance : OffsT Try.prog 170 (arrOffs 12 2) [.int .i64 0, .int .i64 0, .int .i64 0, .int .i64 0, .int .i64 0, .int .i64 0, .int .i64 0, .int .i64 0, .int .i64 0, .int .i64 0, .int .i64 0, .int .i64 0, .int .i64 0, .int .i64 0, .int .i64 0, .int .i64 0, .int .i64 0, .int .i64 0, .int .i64 0, .int .i64 0, .int .i64 0, .int .i64 0, .int .i64 0, .int .i64 0] := ⟨fun i => some (i * 2, 2), fun _ => by kernel_rfl, arrOffs_at 12 2⟩
instance : ZeroT Try.prog 170 [.int .i64 0, .int .i64 0, .int .i64 0, .int .i64 0, .int .i64 0, .int .i64 0, .int .i64 0, .int .i64 0, .int .i64 0, .int .i64 0, .int .i64 0, .int .i64 0, .int .i64 0, .int .i64 0, .int .i64 0, .int .i64 0, .int .i64 0, .int .i64 0, .int .i64 0, .int .i64 0, .int .i64 0, .int .i64 0, .int .i64 0, .int .i64 0] := ⟨_, show still Try.prog (zeroValue 170) = some (.agg (List.toArray [.int .i64 0, .int .i64 0, .int .i64 0, .int .i64 0, .int .i64 0, .int .i64 0, .int .i64 0, .int .i64 0, .int .i64 0, .int .i64 0, .int .i64 0, .int .i64 0, .int .i64 0, .int .i64 0, .int .i64 0, .int .i64 0, .int .i64 0, .int .i64 0, .int .i64 0, .int .i64 0, .int .i64 0, .int .i64 0, .int .i64 0, .int .i64 0])) by kernel_rfl, .agg _⟩
instance : Sc Try.prog 171 := ⟨_, Try.underlying171, rfl, by kernel_rfl⟩
instance : ZeroT Try.prog 171 [.nilFunc] := ⟨.nilFunc, by kernel_rfl, .one rfl⟩
instance : Sc Try.prog 172 := ⟨_, Try.underlying172, rfl, by kernel_rfl⟩
instance : ZeroT Try.prog 172 [.int .u64 0] := ⟨.int .u64 0, by kernel_rfl, .one rfl⟩
instance : IntT Try.prog 172 .u64 := ⟨Try.underlying172⟩
instance : Sc Try.prog 174 := ⟨_, Try.underlying174, rfl, by kernel_rfl⟩
instance : ZeroT Try.prog 174 [.nilFunc] := ⟨.nilFunc, by kernel_rfl, .one rfl⟩
instance : Sc Try.prog 176 := ⟨_, Try.underlying176, rfl, by kernel_rfl⟩
instance : ZeroT Try.prog 176 [.nilFunc] := ⟨.nilFunc, by kernel_rfl, .one rfl⟩
instance : Sc Try.prog 177 := ⟨_, Try.underlying177, rfl, by kernel_rfl⟩
instance : ZeroT Try.prog 177 [.nilFunc] := ⟨.nilFunc, by kernel_rfl, .one rfl⟩
instance : Sc Try.prog 178 := ⟨_, Try.underlying178, rfl, by kernel_rfl⟩
instance : ZeroT Try.prog 178 [.pointer none] := ⟨.pointer none, by kernel_rfl, .one rfl⟩
instance : Sc Try.prog 179 := ⟨_, Try.underlying179, rfl, by kernel_rfl⟩
instance : ZeroT Try.prog 179 [.nilFunc] := ⟨.nilFunc, by kernel_rfl, .one rfl⟩
instance : Sc Try.prog 181 := ⟨_, Try.underlying181, rfl, by kernel_rfl⟩
instance : ZeroT Try.prog 181 [.nilFunc] := ⟨.nilFunc, by kernel_rfl, .one rfl⟩
instance : Sc Try.prog 183 := ⟨_, Try.underlying183, rfl, by kernel_rfl⟩
instance : ZeroT Try.prog 183 [.nilFunc] := ⟨.nilFunc, by kernel_rfl, .one rfl⟩
instance : Sc Try.prog 184 := ⟨_, Try.underlying184, rfl, by kernel_rfl⟩
instance : ZeroT Try.prog 184 [.nilFunc] := ⟨.nilFunc, by kernel_rfl, .one rfl⟩
instance : Sc Try.prog 185 := ⟨_, Try.underlying185, rfl, by kernel_rfl⟩
-- type 185: ('unsafePointer',)
instance : Sc Try.prog 186 := ⟨_, Try.underlying186, rfl, by kernel_rfl⟩
instance : ZeroT Try.prog 186 [.nilFunc] := ⟨.nilFunc, by kernel_rfl, .one rfl⟩
instance : Sc Try.prog 187 := ⟨_, Try.underlying187, rfl, by kernel_rfl⟩
instance : ZeroT Try.prog 187 [.nilFunc] := ⟨.nilFunc, by kernel_rfl, .one rfl⟩
instance : Sc Try.prog 188 := ⟨_, Try.underlying188, rfl, by kernel_rfl⟩
instance : ZeroT Try.prog 188 [.nilFunc] := ⟨.nilFunc, by kernel_rfl, .one rfl⟩
instance : Ag Try.prog 189 4 := ⟨_, Try.underlying189, rfl, by kernel_rfl⟩
instance : FieldAt Try.prog 189 0 0 := ⟨_, _, 0, Try.underlying189, rfl, rfl, by kernel_rfl⟩
instance : FieldAt Try.prog 189 1 1 := ⟨_, _, 0, Try.underlying189, rfl, rfl, by kernel_rfl⟩
instance : FieldAt Try.prog 189 2 2 := ⟨_, _, 0, Try.underlying189, rfl, rfl, by kernel_rfl⟩
instance : FieldAt Try.prog 189 3 3 := ⟨_, _, 0, Try.underlying189, rfl, rfl, by kernel_rfl⟩
instance : OffsT Try.prog 189 [(0, 1), (1, 1), (2, 1), (3, 1)] [.pointer none, .pointer none, .pointer none, .string .empty] := ⟨(([(0, 1), (1, 1), (2, 1), (3, 1)] : List (Nat × Nat)).toArray[·]?), fun _ => by kernel_rfl, fun i p h => by simpa using h⟩
instance : ZeroT Try.prog 189 [.pointer none, .pointer none, .pointer none, .string .empty] := ⟨_, show still Try.prog (zeroValue 189) = some (.agg (List.toArray [.pointer none, .pointer none, .pointer none, .string .empty])) by kernel_rfl, .agg _⟩
instance : Ag Try.prog 190 4 := ⟨_, Try.underlying190, rfl, by kernel_rfl⟩
instance : FieldAt Try.prog 190 0 0 := ⟨_, _, 0, Try.underlying190, rfl, rfl, by kernel_rfl⟩
instance : FieldAt Try.prog 190 1 1 := ⟨_, _, 0, Try.underlying190, rfl, rfl, by kernel_rfl⟩
instance : FieldAt Try.prog 190 2 2 := ⟨_, _, 0, Try.underlying190, rfl, rfl, by kernel_rfl⟩
instance : FieldAt Try.prog 190 3 3 := ⟨_, _, 0, Try.underlying190, rfl, rfl, by kernel_rfl⟩
instance : OffsT Try.prog 190 [(0, 1), (1, 1), (2, 1), (3, 1)] [.pointer none, .pointer none, .pointer none, .string .empty] := ⟨(([(0, 1), (1, 1), (2, 1), (3, 1)] : List (Nat × Nat)).toArray[·]?), fun _ => by kernel_rfl, fun i p h => by simpa using h⟩
instance : ZeroT Try.prog 190 [.pointer none, .pointer none, .pointer none, .string .empty] := ⟨_, show still Try.prog (zeroValue 190) = some (.agg (List.toArray [.pointer none, .pointer none, .pointer none, .string .empty])) by kernel_rfl, .agg _⟩
instance : Sc Try.prog 194 := ⟨_, Try.underlying194, rfl, by kernel_rfl⟩
instance : ZeroT Try.prog 194 [.int .u8 0] := ⟨.int .u8 0, by kernel_rfl, .one rfl⟩
instance : IntT Try.prog 194 .u8 := ⟨Try.underlying194⟩
instance : Sc Try.prog 195 := ⟨_, Try.underlying195, rfl, by kernel_rfl⟩
instance : ZeroT Try.prog 195 [.int .u8 0] := ⟨.int .u8 0, by kernel_rfl, .one rfl⟩
instance : IntT Try.prog 195 .u8 := ⟨Try.underlying195⟩
instance : Sc Try.prog 196 := ⟨_, Try.underlying196, rfl, by kernel_rfl⟩
instance : ZeroT Try.prog 196 [.nilFunc] := ⟨.nilFunc, by kernel_rfl, .one rfl⟩
instance : Sc Try.prog 197 := ⟨_, Try.underlying197, rfl, by kernel_rfl⟩
instance : ZeroT Try.prog 197 [.int .i32 0] := ⟨.int .i32 0, by kernel_rfl, .one rfl⟩
instance : IntT Try.prog 197 .i32 := ⟨Try.underlying197⟩
instance : Sc Try.prog 198 := ⟨_, Try.underlying198, rfl, by kernel_rfl⟩
instance : ZeroT Try.prog 198 [.int .i32 0] := ⟨.int .i32 0, by kernel_rfl, .one rfl⟩
instance : IntT Try.prog 198 .i32 := ⟨Try.underlying198⟩
instance : Ag Try.prog 199 11 := ⟨_, Try.underlying199, rfl, by kernel_rfl⟩
instance : FieldAt Try.prog 199 0 0 := ⟨_, _, 0, Try.underlying199, rfl, rfl, by kernel_rfl⟩
instance : FieldAt Try.prog 199 1 1 := ⟨_, _, 0, Try.underlying199, rfl, rfl, by kernel_rfl⟩
instance : FieldAt Try.prog 199 2 2 := ⟨_, _, 0, Try.underlying199, rfl, rfl, by kernel_rfl⟩
instance : FieldAt Try.prog 199 3 3 := ⟨_, _, 0, Try.underlying199, rfl, rfl, by kernel_rfl⟩
instance : FieldAt Try.prog 199 4 4 := ⟨_, _, 0, Try.underlying199, rfl, rfl, by kernel_rfl⟩
instance : FieldAt Try.prog 199 5 5 := ⟨_, _, 0, Try.underlying199, rfl, rfl, by kernel_rfl⟩
instance : FieldAt Try.prog 199 6 6 := ⟨_, _, 0, Try.underlying199, rfl, rfl, by kernel_rfl⟩
instance : FieldAt Try.prog 199 7 7 := ⟨_, _, 0, Try.underlying199, rfl, rfl, by kernel_rfl⟩
instance : FieldAt Try.prog 199 8 8 := ⟨_, _, 0, Try.underlying199, rfl, rfl, by kernel_rfl⟩
instance : FieldAt Try.prog 199 9 9 := ⟨_, _, 0, Try.underlying199, rfl, rfl, by kernel_rfl⟩
instance : FieldAt Try.prog 199 10 10 := ⟨_, _, 0, Try.underlying199, rfl, rfl, by kernel_rfl⟩
instance : OffsT Try.prog 199 [(0, 1), (1, 1), (2, 1), (3, 1), (4, 1), (5, 1), (6, 1), (7, 1), (8, 1), (9, 1), (10, 1)] [.int .u64 0, .int .u64 0, .int .u32 0, .int .u8 0, .int .u8 0, .int .u8 0, .int .u8 0, .nilFunc, .pointer none, .int .i32 0, .int .i32 0] := ⟨(([(0, 1), (1, 1), (2, 1), (3, 1), (4, 1), (5, 1), (6, 1), (7, 1), (8, 1), (9, 1), (10, 1)] : List (Nat × Nat)).toArray[·]?), fun _ => by kernel_rfl, fun i p h => by simpa using h⟩
instance : ZeroT Try.prog 199 [.int .u64 0, .int .u64 0, .int .u32 0, .int .u8 0, .int .u8 0, .int .u8 0, .int .u8 0, .nilFunc, .pointer none, .int .i32 0, .int .i32 0] := ⟨_, show still Try.prog (zeroValue 199) = some (.agg (List.toArray [.int .u64 0, .int .u64 0, .int .u32 0, .int .u8 0, .int .u8 0, .int .u8 0, .int .u8 0, .nilFunc, .pointer none, .int .i32 0, .int .i32 0])) by kernel_rfl, .agg _⟩
instance : Ag Try.prog 200 11 := ⟨_, Try.underlying200, rfl, by kernel_rfl⟩
instance : FieldAt Try.prog 200 0 0 := ⟨_, _, 0, Try.underlying200, rfl, rfl, by kernel_rfl⟩
instance : FieldAt Try.prog 200 1 1 := ⟨_, _, 0, Try.underlying200, rfl, rfl, by kernel_rfl⟩
instance : FieldAt Try.prog 200 2 2 := ⟨_, _, 0, Try.underlying200, rfl, rfl, by kernel_rfl⟩
instance : FieldAt Try.prog 200 3 3 := ⟨_, _, 0, Try.underlying200, rfl, rfl, by kernel_rfl⟩
instance : FieldAt Try.prog 200 4 4 := ⟨_, _, 0, Try.underlying200, rfl, rfl, by kernel_rfl⟩
instance : FieldAt Try.prog 200 5 5 := ⟨_, _, 0, Try.underlying200, rfl, rfl, by kernel_rfl⟩
instance : FieldAt Try.prog 200 6 6 := ⟨_, _, 0, Try.underlying200, rfl, rfl, by kernel_rfl⟩
instance : FieldAt Try.prog 200 7 7 := ⟨_, _, 0, Try.underlying200, rfl, rfl, by kernel_rfl⟩
instance : FieldAt Try.prog 200 8 8 := ⟨_, _, 0, Try.underlying200, rfl, rfl, by kernel_rfl⟩
instance : FieldAt Try.prog 200 9 9 := ⟨_, _, 0, Try.underlying200, rfl, rfl, by kernel_rfl⟩
instance : FieldAt Try.prog 200 10 10 := ⟨_, _, 0, Try.underlying200, rfl, rfl, by kernel_rfl⟩
instance : OffsT Try.prog 200 [(0, 1), (1, 1), (2, 1), (3, 1), (4, 1), (5, 1), (6, 1), (7, 1), (8, 1), (9, 1), (10, 1)] [.int .u64 0, .int .u64 0, .int .u32 0, .int .u8 0, .int .u8 0, .int .u8 0, .int .u8 0, .nilFunc, .pointer none, .int .i32 0, .int .i32 0] := ⟨(([(0, 1), (1, 1), (2, 1), (3, 1), (4, 1), (5, 1), (6, 1), (7, 1), (8, 1), (9, 1), (10, 1)] : List (Nat × Nat)).toArray[·]?), fun _ => by kernel_rfl, fun i p h => by simpa using h⟩
instance : ZeroT Try.prog 200 [.int .u64 0, .int .u64 0, .int .u32 0, .int .u8 0, .int .u8 0, .int .u8 0, .int .u8 0, .nilFunc, .pointer none, .int .i32 0, .int .i32 0] := ⟨_, show still Try.prog (zeroValue 200) = some (.agg (List.toArray [.int .u64 0, .int .u64 0, .int .u32 0, .int .u8 0, .int .u8 0, .int .u8 0, .int .u8 0, .nilFunc, .pointer none, .int .i32 0, .int .i32 0])) by kernel_rfl, .agg _⟩
end Go.Proofs.Ytgcnfcgnkfkpeaa
