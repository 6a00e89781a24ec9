/- What the types of this program are. -/
import Derived.Test.YtkbkppoefgojaaaSx11
import Derived.Test.YtkbkppoefgojaaaRows
namespace Go.Proofs.Ytkbkppoefgojaaa
open Go Go.RowKit Go.Fw Go.Sx
set_option maxRecDepth 100000
instance : Wide Try.prog := ⟨by kernel_rfl⟩
instance : Sc Try.prog 1 := ⟨_, Try.underlying1, rfl, by kernel_rfl⟩
instance : ZeroT Try.prog 1 [.nilFunc] := ⟨.nilFunc, by kernel_rfl, .one rfl⟩
instance : Sc Try.prog 2 := ⟨_, Try.underlying2, rfl, by kernel_rfl⟩
instance : ZeroT Try.prog 2 [.int .i64 0] := ⟨.int .i64 0, by kernel_rfl, .one rfl⟩
instance : IntT Try.prog 2 .i64 := ⟨Try.underlying2⟩
instance : Sc Try.prog 3 := ⟨_, Try.underlying3, rfl, by kernel_rfl⟩
instance : ZeroT Try.prog 3 [.int .i64 0] := ⟨.int .i64 0, by kernel_rfl, .one rfl⟩
instance : IntT Try.prog 3 .i64 := ⟨Try.underlying3⟩
instance : Sc Try.prog 4 := ⟨_, Try.underlying4, rfl, by kernel_rfl⟩
instance : ZeroT Try.prog 4 [.bool false] := ⟨.bool false, by kernel_rfl, .one rfl⟩
instance : Sc Try.prog 5 := ⟨_, Try.underlying5, rfl, by kernel_rfl⟩
instance : ZeroT Try.prog 5 [.int .u8 0] := ⟨.int .u8 0, by kernel_rfl, .one rfl⟩
instance : IntT Try.prog 5 .u8 := ⟨Try.underlying5⟩
instance : Sc Try.prog 6 := ⟨_, Try.underlying6, rfl, by kernel_rfl⟩
instance : ZeroT Try.prog 6 [.int .u8 0] := ⟨.int .u8 0, by kernel_rfl, .one rfl⟩
instance : IntT Try.prog 6 .u8 := ⟨Try.underlying6⟩
instance : Ag Try.prog 7 4 := ⟨_, Try.underlying7, rfl, by kernel_rfl⟩
instance : FieldAt Try.prog 7 0 0 := ⟨_, _, 0, Try.underlying7, rfl, rfl, by kernel_rfl⟩
instance : FieldAt Try.prog 7 1 1 := ⟨_, _, 0, Try.underlying7, rfl, rfl, by kernel_rfl⟩
instance : FieldAt Try.prog 7 2 2 := ⟨_, _, 0, Try.underlying7, rfl, rfl, by kernel_rfl⟩
instance : FieldAt Try.prog 7 3 3 := ⟨_, _, 0, Try.underlying7, rfl, rfl, by kernel_rfl⟩
instance : OffsT Try.prog 7 [(0, 1), (1, 1), (2, 1), (3, 1)] [.int .i64 0, .int .i64 0, .bool false, .int .u8 0] := ⟨(([(0, 1), (1, 1), (2, 1), (3, 1)] : List (Nat × Nat)).toArray[·]?), fun _ => by kernel_rfl, fun i p h => by simpa using h⟩
instance : ZeroT Try.prog 7 [.int .i64 0, .int .i64 0, .bool false, .int .u8 0] := ⟨_, show still Try.prog (zeroValue 7) = some (.agg (List.toArray [.int .i64 0, .int .i64 0, .bool false, .int .u8 0])) by kernel_rfl, .agg _⟩
instance : Ag Try.prog 8 4 := ⟨_, Try.underlying8, rfl, by kernel_rfl⟩
instance : FieldAt Try.prog 8 0 0 := ⟨_, _, 0, Try.underlying8, rfl, rfl, by kernel_rfl⟩
instance : FieldAt Try.prog 8 1 1 := ⟨_, _, 0, Try.underlying8, rfl, rfl, by kernel_rfl⟩
instance : FieldAt Try.prog 8 2 2 := ⟨_, _, 0, Try.underlying8, rfl, rfl, by kernel_rfl⟩
instance : FieldAt Try.prog 8 3 3 := ⟨_, _, 0, Try.underlying8, rfl, rfl, by kernel_rfl⟩
instance : OffsT Try.prog 8 [(0, 1), (1, 1), (2, 1), (3, 1)] [.int .i64 0, .int .i64 0, .bool false, .int .u8 0] := ⟨(([(0, 1), (1, 1), (2, 1), (3, 1)] : List (Nat × Nat)).toArray[·]?), fun _ => by kernel_rfl, fun i p h => by simpa using h⟩
instance : ZeroT Try.prog 8 [.int .i64 0, .int .i64 0, .bool false, .int .u8 0] := ⟨_, show still Try.prog (zeroValue 8) = some (.agg (List.toArray [.int .i64 0, .int .i64 0, .bool false, .int .u8 0])) by kernel_rfl, .agg _⟩
instance : Sc Try.prog 9 := ⟨_, Try.underlying9, rfl, by kernel_rfl⟩
instance : ZeroT Try.prog 9 [.string .empty] := ⟨.string .empty, by kernel_rfl, .one rfl⟩
instance : StrT Try.prog 9 := ⟨Try.underlying9⟩
instance : Sc Try.prog 10 := ⟨_, Try.underlying10, rfl, by kernel_rfl⟩
instance : ZeroT Try.prog 10 [.string .empty] := ⟨.string .empty, by kernel_rfl, .one rfl⟩
instance : StrT Try.prog 10 := ⟨Try.underlying10⟩
instance : Sc Try.prog 11 := ⟨_, Try.underlying11, rfl, by kernel_rfl⟩
instance : ZeroT Try.prog 11 [.string .empty] := ⟨.string .empty, by kernel_rfl, .one rfl⟩
instance : StrT Try.prog 11 := ⟨Try.underlying11⟩
instance : Sc Try.prog 12 := ⟨_, Try.underlying12, rfl, by kernel_rfl⟩
instance : ZeroT Try.prog 12 [.int .u64 0] := ⟨.int .u64 0, by kernel_rfl, .one rfl⟩
instance : IntT Try.prog 12 .u64 := ⟨Try.underlying12⟩
instance : Ag Try.prog 13 2 := ⟨_, Try.underlying13, rfl, by kernel_rfl⟩
instance : FieldAt Try.prog 13 0 0 := ⟨_, _, 0, Try.underlying13, rfl, rfl, by kernel_rfl⟩
instance : FieldAt Try.prog 13 1 1 := ⟨_, _, 0, Try.underlying13, rfl, rfl, by kernel_rfl⟩
instance : OffsT Try.prog 13 [(0, 1), (1, 1)] [.string .empty, .int .u64 0] := ⟨(([(0, 1), (1, 1)] : List (Nat × Nat)).toArray[·]?), fun _ => by kernel_rfl, fun i p h => by simpa using h⟩
instance : ZeroT Try.prog 13 [.string .empty, .int .u64 0] := ⟨_, show still Try.prog (zeroValue 13) = some (.agg (List.toArray [.string .empty, .int .u64 0])) by kernel_rfl, .agg _⟩
instance : Ag Try.prog 14 2 := ⟨_, Try.underlying14, rfl, by kernel_rfl⟩
instance : FieldAt Try.prog 14 0 0 := ⟨_, _, 0, Try.underlying14, rfl, rfl, by kernel_rfl⟩
instance : FieldAt Try.prog 14 1 1 := ⟨_, _, 0, Try.underlying14, rfl, rfl, by kernel_rfl⟩
instance : OffsT Try.prog 14 [(0, 1), (1, 1)] [.string .empty, .int .u64 0] := ⟨(([(0, 1), (1, 1)] : List (Nat × Nat)).toArray[·]?), fun _ => by kernel_rfl, fun i p h => by simpa using h⟩
instance : ZeroT Try.prog 14 [.string .empty, .int .u64 0] := ⟨_, show still Try.prog (zeroValue 14) = some (.agg (List.toArray [.string .empty, .int .u64 0])) by kernel_rfl, .agg _⟩
instance : Sc Try.prog 15 := ⟨_, Try.underlying15, rfl, by kernel_rfl⟩
instance : ZeroT Try.prog 15 [.pointer none] := ⟨.pointer none, by kernel_rfl, .one rfl⟩
instance : Sc Try.prog 16 := ⟨_, Try.underlying16, rfl, by kernel_rfl⟩
instance : ZeroT Try.prog 16 [.pointer none] := ⟨.pointer none, by kernel_rfl, .one rfl⟩
instance : Sc Try.prog 17 := ⟨_, Try.underlying17, rfl, by kernel_rfl⟩
instance : ZeroT Try.prog 17 [.pointer none] := ⟨.pointer none, by kernel_rfl, .one rfl⟩
instance : Ag Try.prog 18 1 := ⟨_, Try.underlying18, rfl, by kernel_rfl⟩
instance : FieldAt Try.prog 18 0 0 := ⟨_, _, 0, Try.underlying18, rfl, rfl, by kernel_rfl⟩
instance : OffsT Try.prog 18 [(0, 1)] [.pointer none] := ⟨(([(0, 1)] : List (Nat × Nat)).toArray[·]?), fun _ => by kernel_rfl, fun i p h => by simpa using h⟩
instance : ZeroT Try.prog 18 [.pointer none] := ⟨_, show still Try.prog (zeroValue 18) = some (.agg (List.toArray [.pointer none])) by kernel_rfl, .agg _⟩
instance : Ag Try.prog 19 1 := ⟨_, Try.underlying19, rfl, by kernel_rfl⟩
instance : FieldAt Try.prog 19 0 0 := ⟨_, _, 0, Try.underlying19, rfl, rfl, by kernel_rfl⟩
instance : OffsT Try.prog 19 [(0, 1)] [.pointer none] := ⟨(([(0, 1)] : List (Nat × Nat)).toArray[·]?), fun _ => by kernel_rfl, fun i p h => by simpa using h⟩
instance : ZeroT Try.prog 19 [.pointer none] := ⟨_, show still Try.prog (zeroValue 19) = some (.agg (List.toArray [.pointer none])) by kernel_rfl, .agg _⟩
instance : Sc Try.prog 20 := ⟨_, Try.underlying20, rfl, by kernel_rfl⟩
instance : ZeroT Try.prog 20 [.nilIface] := ⟨.nilIface, by kernel_rfl, .one rfl⟩
instance : Sc Try.prog 21 := ⟨_, Try.underlying21, rfl, by kernel_rfl⟩
instance : ZeroT Try.prog 21 [.int .i32 0] := ⟨.int .i32 0, by kernel_rfl, .one rfl⟩
instance : IntT Try.prog 21 .i32 := ⟨Try.underlying21⟩
instance : Sc Try.prog 22 := ⟨_, Try.underlying22, rfl, by kernel_rfl⟩
instance : ZeroT Try.prog 22 [.int .i64 0] := ⟨.int .i64 0, by kernel_rfl, .one rfl⟩
instance : IntT Try.prog 22 .i64 := ⟨Try.underlying22⟩
instance : Sc Try.prog 23 := ⟨_, Try.underlying23, rfl, by kernel_rfl⟩
instance : ZeroT Try.prog 23 [.slice none 0 0] := ⟨.slice none 0 0, by kernel_rfl, .one rfl⟩
instance : SliceT Try.prog 23 22 1 8 := ⟨Try.underlying23, by decide, by decide, .int .i64 0, by kernel_rfl, by kernel_rfl⟩
instance : Sc Try.prog 24 := ⟨_, Try.underlying24, rfl, by kernel_rfl⟩
instance : ZeroT Try.prog 24 [.slice none 0 0] := ⟨.slice none 0 0, by kernel_rfl, .one rfl⟩
instance : SliceT Try.prog 24 3 1 8 := ⟨Try.underlying24, by decide, by decide, .int .i64 0, by kernel_rfl, by kernel_rfl⟩
instance : Sc Try.prog 25 := ⟨_, Try.underlying25, rfl, by kernel_rfl⟩
instance : ZeroT Try.prog 25 [.slice none 0 0] := ⟨.slice none 0 0, by kernel_rfl, .one rfl⟩
instance : SliceT Try.prog 25 24 1 24 := ⟨Try.underlying25, by decide, by decide, .slice none 0 0, by kernel_rfl, by kernel_rfl⟩
instance : Sc Try.prog 26 := ⟨_, Try.underlying26, rfl, by kernel_rfl⟩
instance : ZeroT Try.prog 26 [.nilFunc] := ⟨.nilFunc, by kernel_rfl, .one rfl⟩
instance : Sc Try.prog 27 := ⟨_, Try.underlying27, rfl, by kernel_rfl⟩
instance : ZeroT Try.prog 27 [.nilFunc] := ⟨.nilFunc, by kernel_rfl, .one rfl⟩
instance : Sc Try.prog 29 := ⟨_, Try.underlying29, rfl, by kernel_rfl⟩
instance : ZeroT Try.prog 29 [.nilFunc] := ⟨.nilFunc, by kernel_rfl, .one rfl⟩
instance : Sc Try.prog 31 := ⟨_, Try.underlying31, rfl, by kernel_rfl⟩
instance : ZeroT Try.prog 31 [.nilFunc] := ⟨.nilFunc, by kernel_rfl, .one rfl⟩
instance : Sc Try.prog 32 := ⟨_, Try.underlying32, rfl, by kernel_rfl⟩
instance : ZeroT Try.prog 32 [.nilFunc] := ⟨.nilFunc, by kernel_rfl, .one rfl⟩
instance : Sc Try.prog 33 := ⟨_, Try.underlying33, rfl, by kernel_rfl⟩
instance : ZeroT Try.prog 33 [.int .u64 0] := ⟨.int .u64 0, by kernel_rfl, .one rfl⟩
instance : IntT Try.prog 33 .u64 := ⟨Try.underlying33⟩
instance : Ag Try.prog 34 4 := ⟨_, Try.underlying34, rfl, by kernel_rfl⟩
instance : ArrT Try.prog 34 4 33 1 := ⟨Try.underlying34, by kernel_rfl⟩
instance : OffsT Try.prog 34 (arrOffs 4 1) [.int .u64 0, .int .u64 0, .int .u64 0, .int .u64 0] := ⟨fun i => some (i * 1, 1), fun _ => by kernel_rfl, arrOffs_at 4 1⟩
instance : ZeroT Try.prog 34 [.int .u64 0, .int .u64 0, .int .u64 0, .int .u64 0] := ⟨_, show still Try.prog (zeroValue 34) = some (.agg (List.toArray [.int .u64 0, .int .u64 0, .int .u64 0, .int .u64 0])) by kernel_rfl, .agg _⟩
instance : Ag Try.prog 35 4 := ⟨_, Try.underlying35, rfl, by kernel_rfl⟩
instance : FieldAt Try.prog 35 0 0 := ⟨_, _, 3, Try.underlying35, rfl, rfl, by kernel_rfl⟩
instance : OffsT Try.prog 35 [(0, 4)] [.int .u64 0, .int .u64 0, .int .u64 0, .int .u64 0] := ⟨(([(0, 4)] : List (Nat × Nat)).toArray[·]?), fun _ => by kernel_rfl, fun i p h => by simpa using h⟩
instance : ZeroT Try.prog 35 [.int .u64 0, .int .u64 0, .int .u64 0, .int .u64 0] := ⟨_, show still Try.prog (zeroValue 35) = some (.agg (List.toArray [.int .u64 0, .int .u64 0, .int .u64 0, .int .u64 0])) by kernel_rfl, .agg _⟩
instance : Ag Try.prog 36 4 := ⟨_, Try.underlying36, rfl, by kernel_rfl⟩
instance : FieldAt Try.prog 36 0 0 := ⟨_, _, 3, Try.underlying36, rfl, rfl, by kernel_rfl⟩
instance : OffsT Try.prog 36 [(0, 4)] [.int .u64 0, .int .u64 0, .int .u64 0, .int .u64 0] := ⟨(([(0, 4)] : List (Nat × Nat)).toArray[·]?), fun _ => by kernel_rfl, fun i p h => by simpa using h⟩
instance : ZeroT Try.prog 36 [.int .u64 0, .int .u64 0, .int .u64 0, .int .u64 0] := ⟨_, show still Try.prog (zeroValue 36) = some (.agg (List.toArray [.int .u64 0, .int .u64 0, .int .u64 0, .int .u64 0])) by kernel_rfl, .agg _⟩
instance : Sc Try.prog 37 := ⟨_, Try.underlying37, rfl, by kernel_rfl⟩
instance : ZeroT Try.prog 37 [.nilFunc] := ⟨.nilFunc, by kernel_rfl, .one rfl⟩
instance : Sc Try.prog 38 := ⟨_, Try.underlying38, rfl, by kernel_rfl⟩
instance : ZeroT Try.prog 38 [.nilFunc] := ⟨.nilFunc, by kernel_rfl, .one rfl⟩
instance : Sc Try.prog 39 := ⟨_, Try.underlying39, rfl, by kernel_rfl⟩
instance : ZeroT Try.prog 39 [.nilFunc] := ⟨.nilFunc, by kernel_rfl, .one rfl⟩
instance : Sc Try.prog 40 := ⟨_, Try.underlying40, rfl, by kernel_rfl⟩
instance : ZeroT Try.prog 40 [.nilFunc] := ⟨.nilFunc, by kernel_rfl, .one rfl⟩
instance : Sc Try.prog 41 := ⟨_, Try.underlying41, rfl, by kernel_rfl⟩
instance : ZeroT Try.prog 41 [.nilFunc] := ⟨.nilFunc, by kernel_rfl, .one rfl⟩
instance : Sc Try.prog 42 := ⟨_, Try.underlying42, rfl, by kernel_rfl⟩
instance : ZeroT Try.prog 42 [.nilFunc] := ⟨.nilFunc, by kernel_rfl, .one rfl⟩
instance : Sc Try.prog 43 := ⟨_, Try.underlying43, rfl, by kernel_rfl⟩
instance : ZeroT Try.prog 43 [.nilFunc] := ⟨.nilFunc, by kernel_rfl, .one rfl⟩
instance : Sc Try.prog 44 := ⟨_, Try.underlying44, rfl, by kernel_rfl⟩
instance : ZeroT Try.prog 44 [.nilFunc] := ⟨.nilFunc, by kernel_rfl, .one rfl⟩
instance : Sc Try.prog 45 := ⟨_, Try.underlying45, rfl, by kernel_rfl⟩
instance : ZeroT Try.prog 45 [.nilFunc] := ⟨.nilFunc, by kernel_rfl, .one rfl⟩
instance : Ag Try.prog 46 4 := ⟨_, Try.underlying46, rfl, by kernel_rfl⟩
instance : FieldAt Try.prog 46 0 0 := ⟨_, _, 3, Try.underlying46, rfl, rfl, by kernel_rfl⟩
instance : OffsT Try.prog 46 [(0, 4)] [.int .u64 0, .int .u64 0, .int .u64 0, .int .u64 0] := ⟨(([(0, 4)] : List (Nat × Nat)).toArray[·]?), fun _ => by kernel_rfl, fun i p h => by simpa using h⟩
instance : ZeroT Try.prog 46 [.int .u64 0, .int .u64 0, .int .u64 0, .int .u64 0] := ⟨_, show still Try.prog (zeroValue 46) = some (.agg (List.toArray [.int .u64 0, .int .u64 0, .int .u64 0, .int .u64 0])) by kernel_rfl, .agg _⟩
instance : Sc Try.prog 48 := ⟨_, Try.underlying48, rfl, by kernel_rfl⟩
instance : ZeroT Try.prog 48 [.nilFunc] := ⟨.nilFunc, by kernel_rfl, .one rfl⟩
instance : Sc Try.prog 49 := ⟨_, Try.underlying49, rfl, by kernel_rfl⟩
instance : ZeroT Try.prog 49 [.nilFunc] := ⟨.nilFunc, by kernel_rfl, .one rfl⟩
instance : Sc Try.prog 50 := ⟨_, Try.underlying50, rfl, by kernel_rfl⟩
instance : ZeroT Try.prog 50 [.nilFunc] := ⟨.nilFunc, by kernel_rfl, .one rfl⟩
instance : Sc Try.prog 51 := ⟨_, Try.underlying51, rfl, by kernel_rfl⟩
instance : ZeroT Try.prog 51 [.nilFunc] := ⟨.nilFunc, by kernel_rfl, .one rfl⟩
instance : Sc Try.prog 53 := ⟨_, Try.underlying53, rfl, by kernel_rfl⟩
instance : ZeroT Try.prog 53 [.nilFunc] := ⟨.nilFunc, by kernel_rfl, .one rfl⟩
instance : Sc Try.prog 54 := ⟨_, Try.underlying54, rfl, by kernel_rfl⟩
instance : ZeroT Try.prog 54 [.nilFunc] := ⟨.nilFunc, by kernel_rfl, .one rfl⟩
instance : Sc Try.prog 55 := ⟨_, Try.underlying55, rfl, by kernel_rfl⟩
instance : ZeroT Try.prog 55 [.nilFunc] := ⟨.nilFunc, by kernel_rfl, .one rfl⟩
instance : Sc Try.prog 56 := ⟨_, Try.underlying56, rfl, by kernel_rfl⟩
instance : ZeroT Try.prog 56 [.nilFunc] := ⟨.nilFunc, by kernel_rfl, .one rfl⟩
instance : Sc Try.prog 58 := ⟨_, Try.underlying58, rfl, by kernel_rfl⟩
instance : ZeroT Try.prog 58 [.nilFunc] := ⟨.nilFunc, by kernel_rfl, .one rfl⟩
instance : Sc Try.prog 59 := ⟨_, Try.underlying59, rfl, by kernel_rfl⟩
instance : ZeroT Try.prog 59 [.nilFunc] := ⟨.nilFunc, by kernel_rfl, .one rfl⟩
instance : Sc Try.prog 60 := ⟨_, Try.underlying60, rfl, by kernel_rfl⟩
instance : ZeroT Try.prog 60 [.nilFunc] := ⟨.nilFunc, by kernel_rfl, .one rfl⟩
instance : Sc Try.prog 61 := ⟨_, Try.underlying61, rfl, by kernel_rfl⟩
instance : ZeroT Try.prog 61 [.nilFunc] := ⟨.nilFunc, by kernel_rfl, .one rfl⟩
instance : Sc Try.prog 62 := ⟨_, Try.underlying62, rfl, by kernel_rfl⟩
instance : ZeroT Try.prog 62 [.nilFunc] := ⟨.nilFunc, by kernel_rfl, .one rfl⟩
instance : Ag Try.prog 63 3 := ⟨_, Try.underlying63, rfl, by kernel_rfl⟩
instance : FieldAt Try.prog 63 0 0 := ⟨_, _, 0, Try.underlying63, rfl, rfl, by kernel_rfl⟩
instance : FieldAt Try.prog 63 1 1 := ⟨_, _, 0, Try.underlying63, rfl, rfl, by kernel_rfl⟩
instance : FieldAt Try.prog 63 2 2 := ⟨_, _, 0, Try.underlying63, rfl, rfl, by kernel_rfl⟩
instance : OffsT Try.prog 63 [(0, 1), (1, 1), (2, 1)] [.int .i64 0, .int .i64 0, .int .i64 0] := ⟨(([(0, 1), (1, 1), (2, 1)] : List (Nat × Nat)).toArray[·]?), fun _ => by kernel_rfl, fun i p h => by simpa using h⟩
instance : ZeroT Try.prog 63 [.int .i64 0, .int .i64 0, .int .i64 0] := ⟨_, show still Try.prog (zeroValue 63) = some (.agg (List.toArray [.int .i64 0, .int .i64 0, .int .i64 0])) by kernel_rfl, .agg _⟩
instance : Ag Try.prog 64 3 := ⟨_, Try.underlying64, rfl, by kernel_rfl⟩
instance : FieldAt Try.prog 64 0 0 := ⟨_, _, 0, Try.underlying64, rfl, rfl, by kernel_rfl⟩
instance : FieldAt Try.prog 64 1 1 := ⟨_, _, 0, Try.underlying64, rfl, rfl, by kernel_rfl⟩
instance : FieldAt Try.prog 64 2 2 := ⟨_, _, 0, Try.underlying64, rfl, rfl, by kernel_rfl⟩
instance : OffsT Try.prog 64 [(0, 1), (1, 1), (2, 1)] [.int .i64 0, .int .i64 0, .int .i64 0] := ⟨(([(0, 1), (1, 1), (2, 1)] : List (Nat × Nat)).toArray[·]?), fun _ => by kernel_rfl, fun i p h => by simpa using h⟩
instance : ZeroT Try.prog 64 [.int .i64 0, .int .i64 0, .int .i64 0] := ⟨_, show still Try.prog (zeroValue 64) = some (.agg (List.toArray [.int .i64 0, .int .i64 0, .int .i64 0])) by kernel_rfl, .agg _⟩
instance : Sc Try.prog 66 := ⟨_, Try.underlying66, rfl, by kernel_rfl⟩
instance : ZeroT Try.prog 66 [.nilFunc] := ⟨.nilFunc, by kernel_rfl, .one rfl⟩
instance : Sc Try.prog 67 := ⟨_, Try.underlying67, rfl, by kernel_rfl⟩
instance : ZeroT Try.prog 67 [.nilFunc] := ⟨.nilFunc, by kernel_rfl, .one rfl⟩
instance : Ag Try.prog 68 256 := ⟨_, Try.underlying68, rfl, by kernel_rfl⟩
instance : ArrT Try.prog 68 256 5 1 := ⟨Try.underlying68, by kernel_rfl⟩
instance : Ag Try.prog 69 520 := ⟨_, Try.underlying69, rfl, by kernel_rfl⟩
instance : FieldAt Try.prog 69 0 0 := ⟨_, _, 255, Try.underlying69, rfl, rfl, by kernel_rfl⟩
instance : FieldAt Try.prog 69 1 256 := ⟨_, _, 255, Try.underlying69, rfl, rfl, by kernel_rfl⟩
instance : FieldAt Try.prog 69 2 512 := ⟨_, _, 3, Try.underlying69, rfl, rfl, by kernel_rfl⟩
instance : FieldAt Try.prog 69 3 516 := ⟨_, _, 3, Try.underlying69, rfl, rfl, by kernel_rfl⟩
instance : Ag Try.prog 70 520 := ⟨_, Try.underlying70, rfl, by kernel_rfl⟩
instance : FieldAt Try.prog 70 0 0 := ⟨_, _, 255, Try.underlying70, rfl, rfl, by kernel_rfl⟩
instance : FieldAt Try.prog 70 1 256 := ⟨_, _, 255, Try.underlying70, rfl, rfl, by kernel_rfl⟩
instance : FieldAt Try.prog 70 2 512 := ⟨_, _, 3, Try.underlying70, rfl, rfl, by kernel_rfl⟩
instance : FieldAt Try.prog 70 3 516 := ⟨_, _, 3, Try.underlying70, rfl, rfl, by kernel_rfl⟩
instance : Sc Try.prog 72 := ⟨_, Try.underlying72, rfl, by kernel_rfl⟩
instance : ZeroT Try.prog 72 [.nilFunc] := ⟨.nilFunc, by kernel_rfl, .one rfl⟩
instance : Sc Try.prog 73 := ⟨_, Try.underlying73, rfl, by kernel_rfl⟩
instance : ZeroT Try.prog 73 [.nilFunc] := ⟨.nilFunc, by kernel_rfl, .one rfl⟩
instance : Sc Try.prog 74 := ⟨_, Try.underlying74, rfl, by kernel_rfl⟩
instance : ZeroT Try.prog 74 [.nilFunc] := ⟨.nilFunc, by kernel_rfl, .one rfl⟩
instance : Sc Try.prog 75 := ⟨_, Try.underlying75, rfl, by kernel_rfl⟩
instance : ZeroT Try.prog 75 [.nilFunc] := ⟨.nilFunc, by kernel_rfl, .one rfl⟩
instance : Sc Try.prog 76 := ⟨_, Try.underlying76, rfl, by kernel_rfl⟩
instance : ZeroT Try.prog 76 [.nilFunc] := ⟨.nilFunc, by kernel_rfl, .one rfl⟩
instance : Sc Try.prog 77 := ⟨_, Try.underlying77, rfl, by kernel_rfl⟩
instance : ZeroT Try.prog 77 [.nilFunc] := ⟨.nilFunc, by kernel_rfl, .one rfl⟩
instance : Sc Try.prog 78 := ⟨_, Try.underlying78, rfl, by kernel_rfl⟩
instance : ZeroT Try.prog 78 [.nilFunc] := ⟨.nilFunc, by kernel_rfl, .one rfl⟩
instance : Sc Try.prog 79 := ⟨_, Try.underlying79, rfl, by kernel_rfl⟩
instance : ZeroT Try.prog 79 [.slice none 0 0] := ⟨.slice none 0 0, by kernel_rfl, .one rfl⟩
instance : SliceT Try.prog 79 9 1 16 := ⟨Try.underlying79, by decide, by decide, .string .empty, by kernel_rfl, by kernel_rfl⟩
instance : Ag Try.prog 80 2 := ⟨_, Try.underlying80, rfl, by kernel_rfl⟩
instance : FieldAt Try.prog 80 0 0 := ⟨_, _, 0, Try.underlying80, rfl, rfl, by kernel_rfl⟩
instance : FieldAt Try.prog 80 1 1 := ⟨_, _, 0, Try.underlying80, rfl, rfl, by kernel_rfl⟩
instance : OffsT Try.prog 80 [(0, 1), (1, 1)] [.slice none 0 0, .int .i64 0] := ⟨(([(0, 1), (1, 1)] : List (Nat × Nat)).toArray[·]?), fun _ => by kernel_rfl, fun i p h => by simpa using h⟩
instance : ZeroT Try.prog 80 [.slice none 0 0, .int .i64 0] := ⟨_, show still Try.prog (zeroValue 80) = some (.agg (List.toArray [.slice none 0 0, .int .i64 0])) by kernel_rfl, .agg _⟩
instance : Ag Try.prog 81 2 := ⟨_, Try.underlying81, rfl, by kernel_rfl⟩
instance : FieldAt Try.prog 81 0 0 := ⟨_, _, 0, Try.underlying81, rfl, rfl, by kernel_rfl⟩
instance : FieldAt Try.prog 81 1 1 := ⟨_, _, 0, Try.underlying81, rfl, rfl, by kernel_rfl⟩
instance : OffsT Try.prog 81 [(0, 1), (1, 1)] [.slice none 0 0, .int .i64 0] := ⟨(([(0, 1), (1, 1)] : List (Nat × Nat)).toArray[·]?), fun _ => by kernel_rfl, fun i p h => by simpa using h⟩
instance : ZeroT Try.prog 81 [.slice none 0 0, .int .i64 0] := ⟨_, show still Try.prog (zeroValue 81) = some (.agg (List.toArray [.slice none 0 0, .int .i64 0])) by kernel_rfl, .agg _⟩
instance : Sc Try.prog 83 := ⟨_, Try.underlying83, rfl, by kernel_rfl⟩
instance : ZeroT Try.prog 83 [.nilFunc] := ⟨.nilFunc, by kernel_rfl, .one rfl⟩
instance : Sc Try.prog 84 := ⟨_, Try.underlying84, rfl, by kernel_rfl⟩
instance : ZeroT Try.prog 84 [.nilFunc] := ⟨.nilFunc, by kernel_rfl, .one rfl⟩
instance : Sc Try.prog 85 := ⟨_, Try.underlying85, rfl, by kernel_rfl⟩
instance : ZeroT Try.prog 85 [.nilFunc] := ⟨.nilFunc, by kernel_rfl, .one rfl⟩
instance : Sc Try.prog 86 := ⟨_, Try.underlying86, rfl, by kernel_rfl⟩
instance : ZeroT Try.prog 86 [.nilFunc] := ⟨.nilFunc, by kernel_rfl, .one rfl⟩
instance : Sc Try.prog 87 := ⟨_, Try.underlying87, rfl, by kernel_rfl⟩
instance : ZeroT Try.prog 87 [.nilFunc] := ⟨.nilFunc, by kernel_rfl, .one rfl⟩
instance : Sc Try.prog 88 := ⟨_, Try.underlying88, rfl, by kernel_rfl⟩
instance : ZeroT Try.prog 88 [.int .u64 0] := ⟨.int .u64 0, by kernel_rfl, .one rfl⟩
instance : IntT Try.prog 88 .u64 := ⟨Try.underlying88⟩
instance : Sc Try.prog 89 := ⟨_, Try.underlying89, rfl, by kernel_rfl⟩
instance : ZeroT Try.prog 89 [.slice none 0 0] := ⟨.slice none 0 0, by kernel_rfl, .one rfl⟩
instance : SliceT Try.prog 89 5 1 1 := ⟨Try.underlying89, by decide, by decide, .int .u8 0, by kernel_rfl, by kernel_rfl⟩
instance : Sc Try.prog 90 := ⟨_, Try.underlying90, rfl, by kernel_rfl⟩
instance : ZeroT Try.prog 90 [.nilFunc] := ⟨.nilFunc, by kernel_rfl, .one rfl⟩
instance : Ag Try.prog 91 2 := ⟨_, Try.underlying91, rfl, by kernel_rfl⟩
instance : ArrT Try.prog 91 2 3 1 := ⟨Try.underlying91, by kernel_rfl⟩
instance : OffsT Try.prog 91 (arrOffs 2 1) [.int .i64 0, .int .i64 0] := ⟨fun i => some (i * 1, 1), fun _ => by kernel_rfl, arrOffs_at 2 1⟩
instance : ZeroT Try.prog 91 [.int .i64 0, .int .i64 0] := ⟨_, show still Try.prog (zeroValue 91) = some (.agg (List.toArray [.int .i64 0, .int .i64 0])) by kernel_rfl, .agg _⟩
instance : Ag Try.prog 92 12 := ⟨_, Try.underlying92, rfl, by kernel_rfl⟩
instance : ArrT Try.prog 92 6 91 2 := ⟨Try.underlying92, by kernel_rfl⟩
instance : OffsT Try.prog 92 (arrOffs 6 2) [.int .i64 0, .int .i64 0, .int .i64 0, .int .i64 0, .int .i64 0, .int .i64 0, .int .i64 0, .int .i64 0, .int .i64 0, .int .i64 0, .int .i64 0, .int .i64 0] := ⟨fun i => some (i * 2, 2), fun _ => by kernel_rfl, arrOffs_at 6 2⟩
instance : ZeroT Try.prog 92 [.int .i64 0, .int .i64 0, .int .i64 0, .int .i64 0, .int .i64 0, .int .i64 0, .int .i64 0, .int .i64 0, .int .i64 0, .int .i64 0, .int .i64 0, .int .i64 0] := ⟨_, show still Try.prog (zeroValue 92) = some (.agg (List.toArray [.int .i64 0, .int .i64 0, .int .i64 0, .int .i64 0, .int .i64 0, .int .i64 0, .int .i64 0, .int .i64 0, .int .i64 0, .int .i64 0, .int .i64 0, .int .i64 0])) by kernel_rfl, .agg _⟩
instance : Ag Try.prog 93 24 := ⟨_, Try.underlying93, rfl, by kernel_rfl⟩
instance : ArrT Try.prog 93 12 91 2 := ⟨Try.underlying93, by kernel_rfl⟩
instance : OffsT Try.prog 93 (arrOffs 12 2) [.int .i64 0, .int .i64 0, .int .i64 0, .int .i64 0, .int .i64 0, .int .i64 0, .int .i64 0, .int .i64 0, .int .i64 0, .int .i64 0, .int .i64 0, .int .i64 0, .int .i64 0, .int .i64 0, .int .i64 0, .int .i64 0, .int .i64 0, .int .i64 0, .int .i64 0, .int .i64 0, .int .i64 0, .int .i64 0, .int .i64 0, .int .i64 0] := ⟨fun i => some (i * 2, 2), fun _ => by kernel_rfl, arrOffs_at 12 2⟩
instance : ZeroT Try.prog 93 [.int .i64 0, .int .i64 0, .int .i64 0, .int .i64 0, .int .i64 0, .int .i64 0, .int .i64 0, .int .i64 0, .int .i64 0, .int .i64 0, .int .i64 0, .int .i64 0, .int .i64 0, .int .i64 0, .int .i64 0, .int .i64 0, .int .i64 0, .int .i64 0, .int .i64 0, .int .i64 0, .int .i64 0, .int .i64 0, .int .i64 0, .int .i64 0] := ⟨_, show still Try.prog (zeroValue 93) = some (.agg (List.toArray [.int .i64 0, .int .i64 0, .int .i64 0, .int .i64 0, .int .i64 0, .int .i64 0, .int .i64 0, .int .i64 0, .int .i64 0, .int .i64 0, .int .i64 0, .int .i64 0, .int .i64 0, .int .i64 0, .int .i64 0, .int .i64 0, .int .i64 0, .int .i64 0, .int .i64 0, .int .i64 0, .int .i64 0, .int .i64 0, .int .i64 0, .int .i64 0])) by kernel_rfl, .agg _⟩
instance : Sc Try.prog 94 := ⟨_, Try.underlying94, rfl, by kernel_rfl⟩
instance : ZeroT Try.prog 94 [.nilFunc] := ⟨.nilFunc, by kernel_rfl, .one rfl⟩
instance : Sc Try.prog 95 := ⟨_, Try.underlying95, rfl, by kernel_rfl⟩
instance : ZeroT Try.prog 95 [.slice none 0 0] := ⟨.slice none 0 0, by kernel_rfl, .one rfl⟩
instance : SliceT Try.prog 95 91 2 16 := ⟨Try.underlying95, by decide, by decide, .agg #[.int .i64 0, .int .i64 0], by kernel_rfl, by kernel_rfl⟩
instance : Sc Try.prog 96 := ⟨_, Try.underlying96, rfl, by kernel_rfl⟩
instance : ZeroT Try.prog 96 [.nilFunc] := ⟨.nilFunc, by kernel_rfl, .one rfl⟩
instance : Sc Try.prog 97 := ⟨_, Try.underlying97, rfl, by kernel_rfl⟩
instance : ZeroT Try.prog 97 [.nilFunc] := ⟨.nilFunc, by kernel_rfl, .one rfl⟩
instance : Sc Try.prog 98 := ⟨_, Try.underlying98, rfl, by kernel_rfl⟩
instance : ZeroT Try.prog 98 [.nilFunc] := ⟨.nilFunc, by kernel_rfl, .one rfl⟩
instance : Sc Try.prog 99 := ⟨_, Try.underlying99, rfl, by kernel_rfl⟩
instance : ZeroT Try.prog 99 [.nilFunc] := ⟨.nilFunc, by kernel_rfl, .one rfl⟩
instance : Sc Try.prog 100 := ⟨_, Try.underlying100, rfl, by kernel_rfl⟩
instance : ZeroT Try.prog 100 [.nilFunc] := ⟨.nilFunc, by kernel_rfl, .one rfl⟩
instance : Sc Try.prog 101 := ⟨_, Try.underlying101, rfl, by kernel_rfl⟩
instance : ZeroT Try.prog 101 [.nilFunc] := ⟨.nilFunc, by kernel_rfl, .one rfl⟩
instance : Sc Try.prog 102 := ⟨_, Try.underlying102, rfl, by kernel_rfl⟩
instance : ZeroT Try.prog 102 [.nilFunc] := ⟨.nilFunc, by kernel_rfl, .one rfl⟩
instance : Sc Try.prog 103 := ⟨_, Try.underlying103, rfl, by kernel_rfl⟩
instance : ZeroT Try.prog 103 [.nilFunc] := ⟨.nilFunc, by kernel_rfl, .one rfl⟩
instance : Ag Try.prog 104 6 := ⟨_, Try.underlying104, rfl, by kernel_rfl⟩
instance : ArrT Try.prog 104 2 64 3 := ⟨Try.underlying104, by kernel_rfl⟩
instance : OffsT Try.prog 104 (arrOffs 2 3) [.int .i64 0, .int .i64 0, .int .i64 0, .int .i64 0, .int .i64 0, .int .i64 0] := ⟨fun i => some (i * 3, 3), fun _ => by kernel_rfl, arrOffs_at 2 3⟩
instance : ZeroT Try.prog 104 [.int .i64 0, .int .i64 0, .int .i64 0, .int .i64 0, .int .i64 0, .int .i64 0] := ⟨_, show still Try.prog (zeroValue 104) = some (.agg (List.toArray [.int .i64 0, .int .i64 0, .int .i64 0, .int .i64 0, .int .i64 0, .int .i64 0])) by kernel_rfl, .agg _⟩
instance : Sc Try.prog 105 := ⟨_, Try.underlying105, rfl, by kernel_rfl⟩
instance : ZeroT Try.prog 105 [.nilFunc] := ⟨.nilFunc, by kernel_rfl, .one rfl⟩
instance : Sc Try.prog 106 := ⟨_, Try.underlying106, rfl, by kernel_rfl⟩
instance : ZeroT Try.prog 106 [.nilFunc] := ⟨.nilFunc, by kernel_rfl, .one rfl⟩
instance : Sc Try.prog 107 := ⟨_, Try.underlying107, rfl, by kernel_rfl⟩
instance : ZeroT Try.prog 107 [.nilFunc] := ⟨.nilFunc, by kernel_rfl, .one rfl⟩
instance : Sc Try.prog 108 := ⟨_, Try.underlying108, rfl, by kernel_rfl⟩
instance : ZeroT Try.prog 108 [.nilFunc] := ⟨.nilFunc, by kernel_rfl, .one rfl⟩
instance : Sc Try.prog 109 := ⟨_, Try.underlying109, rfl, by kernel_rfl⟩
instance : ZeroT Try.prog 109 [.pointer none] := ⟨.pointer none, by kernel_rfl, .one rfl⟩
instance : Sc Try.prog 110 := ⟨_, Try.underlying110, rfl, by kernel_rfl⟩
instance : ZeroT Try.prog 110 [.nilFunc] := ⟨.nilFunc, by kernel_rfl, .one rfl⟩
instance : Sc Try.prog 111 := ⟨_, Try.underlying111, rfl, by kernel_rfl⟩
instance : ZeroT Try.prog 111 [.nilFunc] := ⟨.nilFunc, by kernel_rfl, .one rfl⟩
instance : Sc Try.prog 112 := ⟨_, Try.underlying112, rfl, by kernel_rfl⟩
instance : ZeroT Try.prog 112 [.nilFunc] := ⟨.nilFunc, by kernel_rfl, .one rfl⟩
instance : Sc Try.prog 113 := ⟨_, Try.underlying113, rfl, by kernel_rfl⟩
instance : ZeroT Try.prog 113 [.nilFunc] := ⟨.nilFunc, by kernel_rfl, .one rfl⟩
instance : Sc Try.prog 114 := ⟨_, Try.underlying114, rfl, by kernel_rfl⟩
instance : ZeroT Try.prog 114 [.nilFunc] := ⟨.nilFunc, by kernel_rfl, .one rfl⟩
instance : Sc Try.prog 115 := ⟨_, Try.underlying115, rfl, by kernel_rfl⟩
instance : ZeroT Try.prog 115 [.nilFunc] := ⟨.nilFunc, by kernel_rfl, .one rfl⟩
instance : Ag Try.prog 116 32 := ⟨_, Try.underlying116, rfl, by kernel_rfl⟩
instance : ArrT Try.prog 116 32 3 1 := ⟨Try.underlying116, by kernel_rfl⟩
instance : OffsT Try.prog 116 (arrOffs 32 1) [.int .i64 0, .int .i64 0, .int .i64 0, .int .i64 0, .int .i64 0, .int .i64 0, .int .i64 0, .int .i64 0, .int .i64 0, .int .i64 0, .int .i64 0, .int .i64 0, .int .i64 0, .int .i64 0, .int .i64 0, .int .i64 0, .int .i64 0, .int .i64 0, .int .i64 0, .int .i64 0, .int .i64 0, .int .i64 0, .int .i64 0, .int .i64 0, .int .i64 0, .int .i64 0, .int .i64 0, .int .i64 0, .int .i64 0, .int .i64 0, .int .i64 0, .int .i64 0] := ⟨fun i => some (i * 1, 1), fun _ => by kernel_rfl, arrOffs_at 32 1⟩
instance : ZeroT Try.prog 116 [.int .i64 0, .int .i64 0, .int .i64 0, .int .i64 0, .int .i64 0, .int .i64 0, .int .i64 0, .int .i64 0, .int .i64 0, .int .i64 0, .int .i64 0, .int .i64 0, .int .i64 0, .int .i64 0, .int .i64 0, .int .i64 0, .int .i64 0, .int .i64 0, .int .i64 0, .int .i64 0, .int .i64 0, .int .i64 0, .int .i64 0, .int .i64 0, .int .i64 0, .int .i64 0, .int .i64 0, .int .i64 0, .int .i64 0, .int .i64 0, .int .i64 0, .int .i64 0] := ⟨_, show still Try.prog (zeroValue 116) = some (.agg (List.toArray [.int .i64 0, .int .i64 0, .int .i64 0, .int .i64 0, .int .i64 0, .int .i64 0, .int .i64 0, .int .i64 0, .int .i64 0, .int .i64 0, .int .i64 0, .int .i64 0, .int .i64 0, .int .i64 0, .int .i64 0, .int .i64 0, .int .i64 0, .int .i64 0, .int .i64 0, .int .i64 0, .int .i64 0, .int .i64 0, .int .i64 0, .int .i64 0, .int .i64 0, .int .i64 0, .int .i64 0, .int .i64 0, .int .i64 0, .int .i64 0, .int .i64 0, .int .i64 0])) by kernel_rfl, .agg _⟩
instance : Sc Try.prog 117 := ⟨_, Try.underlying117, rfl, by kernel_rfl⟩
instance : ZeroT Try.prog 117 [.nilFunc] := ⟨.nilFunc, by kernel_rfl, .one rfl⟩
instance : Ag Try.prog 118 10 := ⟨_, Try.underlying118, rfl, by kernel_rfl⟩
instance : ArrT Try.prog 118 10 3 1 := ⟨Try.underlying118, by kernel_rfl⟩
instance : OffsT Try.prog 118 (arrOffs 10 1) [.int .i64 0, .int .i64 0, .int .i64 0, .int .i64 0, .int .i64 0, .int .i64 0, .int .i64 0, .int .i64 0, .int .i64 0, .int .i64 0] := ⟨fun i => some (i * 1, 1), fun _ => by kernel_rfl, arrOffs_at 10 1⟩
instance : ZeroT Try.prog 118 [.int .i64 0, .int .i64 0, .int .i64 0, .int .i64 0, .int .i64 0, .int .i64 0, .int .i64 0, .int .i64 0, .int .i64 0, .int .i64 0] := ⟨_, show still Try.prog (zeroValue 118) = some (.agg (List.toArray [.int .i64 0, .int .i64 0, .int .i64 0, .int .i64 0, .int .i64 0, .int .i64 0, .int .i64 0, .int .i64 0, .int .i64 0, .int .i64 0])) by kernel_rfl, .agg _⟩
instance : Ag Try.prog 119 512 := ⟨_, Try.underlying119, rfl, by kernel_rfl⟩
instance : ArrT Try.prog 119 2 68 256 := ⟨Try.underlying119, by kernel_rfl⟩
instance : Sc Try.prog 120 := ⟨_, Try.underlying120, rfl, by kernel_rfl⟩
instance : ZeroT Try.prog 120 [.int .u32 0] := ⟨.int .u32 0, by kernel_rfl, .one rfl⟩
instance : IntT Try.prog 120 .u32 := ⟨Try.underlying120⟩
instance : Sc Try.prog 121 := ⟨_, Try.underlying121, rfl, by kernel_rfl⟩
instance : ZeroT Try.prog 121 [.nilFunc] := ⟨.nilFunc, by kernel_rfl, .one rfl⟩
instance : Ag Try.prog 122 4 := ⟨_, Try.underlying122, rfl, by kernel_rfl⟩
instance : FieldAt Try.prog 122 0 0 := ⟨_, _, 0, Try.underlying122, rfl, rfl, by kernel_rfl⟩
instance : FieldAt Try.prog 122 1 1 := ⟨_, _, 0, Try.underlying122, rfl, rfl, by kernel_rfl⟩
instance : FieldAt Try.prog 122 2 2 := ⟨_, _, 0, Try.underlying122, rfl, rfl, by kernel_rfl⟩
instance : FieldAt Try.prog 122 3 3 := ⟨_, _, 0, Try.underlying122, rfl, rfl, by kernel_rfl⟩
instance : OffsT Try.prog 122 [(0, 1), (1, 1), (2, 1), (3, 1)] [.pointer none, .pointer none, .pointer none, .string .empty] := ⟨(([(0, 1), (1, 1), (2, 1), (3, 1)] : List (Nat × Nat)).toArray[·]?), fun _ => by kernel_rfl, fun i p h => by simpa using h⟩
instance : ZeroT Try.prog 122 [.pointer none, .pointer none, .pointer none, .string .empty] := ⟨_, show still Try.prog (zeroValue 122) = some (.agg (List.toArray [.pointer none, .pointer none, .pointer none, .string .empty])) by kernel_rfl, .agg _⟩
instance : Ag Try.prog 123 4 := ⟨_, Try.underlying123, rfl, by kernel_rfl⟩
instance : FieldAt Try.prog 123 0 0 := ⟨_, _, 0, Try.underlying123, rfl, rfl, by kernel_rfl⟩
instance : FieldAt Try.prog 123 1 1 := ⟨_, _, 0, Try.underlying123, rfl, rfl, by kernel_rfl⟩
instance : FieldAt Try.prog 123 2 2 := ⟨_, _, 0, Try.underlying123, rfl, rfl, by kernel_rfl⟩
instance : FieldAt Try.prog 123 3 3 := ⟨_, _, 0, Try.underlying123, rfl, rfl, by kernel_rfl⟩
instance : OffsT Try.prog 123 [(0, 1), (1, 1), (2, 1), (3, 1)] [.pointer none, .pointer none, .pointer none, .string .empty] := ⟨(([(0, 1), (1, 1), (2, 1), (3, 1)] : List (Nat × Nat)).toArray[·]?), fun _ => by kernel_rfl, fun i p h => by simpa using h⟩
instance : ZeroT Try.prog 123 [.pointer none, .pointer none, .pointer none, .string .empty] := ⟨_, show still Try.prog (zeroValue 123) = some (.agg (List.toArray [.pointer none, .pointer none, .pointer none, .string .empty])) by kernel_rfl, .agg _⟩
instance : Sc Try.prog 127 := ⟨_, Try.underlying127, rfl, by kernel_rfl⟩
instance : ZeroT Try.prog 127 [.nilFunc] := ⟨.nilFunc, by kernel_rfl, .one rfl⟩
instance : Sc Try.prog 128 := ⟨_, Try.underlying128, rfl, by kernel_rfl⟩
instance : ZeroT Try.prog 128 [.int .u8 0] := ⟨.int .u8 0, by kernel_rfl, .one rfl⟩
instance : IntT Try.prog 128 .u8 := ⟨Try.underlying128⟩
instance : Sc Try.prog 129 := ⟨_, Try.underlying129, rfl, by kernel_rfl⟩
instance : ZeroT Try.prog 129 [.int .u8 0] := ⟨.int .u8 0, by kernel_rfl, .one rfl⟩
instance : IntT Try.prog 129 .u8 := ⟨Try.underlying129⟩
instance : Sc Try.prog 130 := ⟨_, Try.underlying130, rfl, by kernel_rfl⟩
instance : ZeroT Try.prog 130 [.nilFunc] := ⟨.nilFunc, by kernel_rfl, .one rfl⟩
instance : Sc Try.prog 131 := ⟨_, Try.underlying131, rfl, by kernel_rfl⟩
instance : ZeroT Try.prog 131 [.int .i32 0] := ⟨.int .i32 0, by kernel_rfl, .one rfl⟩
instance : IntT Try.prog 131 .i32 := ⟨Try.underlying131⟩
instance : Sc Try.prog 132 := ⟨_, Try.underlying132, rfl, by kernel_rfl⟩
instance : ZeroT Try.prog 132 [.int .i32 0] := ⟨.int .i32 0, by kernel_rfl, .one rfl⟩
instance : IntT Try.prog 132 .i32 := ⟨Try.underlying132⟩
instance : Ag Try.prog 133 11 := ⟨_, Try.underlying133, rfl, by kernel_rfl⟩
instance : FieldAt Try.prog 133 0 0 := ⟨_, _, 0, Try.underlying133, rfl, rfl, by kernel_rfl⟩
instance : FieldAt Try.prog 133 1 1 := ⟨_, _, 0, Try.underlying133, rfl, rfl, by kernel_rfl⟩
instance : FieldAt Try.prog 133 2 2 := ⟨_, _, 0, Try.underlying133, rfl, rfl, by kernel_rfl⟩
instance : FieldAt Try.prog 133 3 3 := ⟨_, _, 0, Try.underlying133, rfl, rfl, by kernel_rfl⟩
instance : FieldAt Try.prog 133 4 4 := ⟨_, _, 0, Try.underlying133, rfl, rfl, by kernel_rfl⟩
instance : FieldAt Try.prog 133 5 5 := ⟨_, _, 0, Try.underlying133, rfl, rfl, by kernel_rfl⟩
instance : FieldAt Try.prog 133 6 6 := ⟨_, _, 0, Try.underlying133, rfl, rfl, by kernel_rfl⟩
instance : FieldAt Try.prog 133 7 7 := ⟨_, _, 0, Try.underlying133, rfl, rfl, by kernel_rfl⟩
instance : FieldAt Try.prog 133 8 8 := ⟨_, _, 0, Try.underlying133, rfl, rfl, by kernel_rfl⟩
instance : FieldAt Try.prog 133 9 9 := ⟨_, _, 0, Try.underlying133, rfl, rfl, by kernel_rfl⟩
instance : FieldAt Try.prog 133 10 10 := ⟨_, _, 0, Try.underlying133, rfl, rfl, by kernel_rfl⟩
instance : OffsT Try.prog 133 [(0, 1), (1, 1), (2, 1), (3, 1), (4, 1), (5, 1), (6, 1), (7, 1), (8, 1), (9, 1), (10, 1)] [.int .u64 0, .int .u64 0, .int .u32 0, .int .u8 0, .int .u8 0, .int .u8 0, .int .u8 0, .nilFunc, .pointer none, .int .i32 0, .int .i32 0] := ⟨(([(0, 1), (1, 1), (2, 1), (3, 1), (4, 1), (5, 1), (6, 1), (7, 1), (8, 1), (9, 1), (10, 1)] : List (Nat × Nat)).toArray[·]?), fun _ => by kernel_rfl, fun i p h => by simpa using h⟩
instance : ZeroT Try.prog 133 [.int .u64 0, .int .u64 0, .int .u32 0, .int .u8 0, .int .u8 0, .int .u8 0, .int .u8 0, .nilFunc, .pointer none, .int .i32 0, .int .i32 0] := ⟨_, show still Try.prog (zeroValue 133) = some (.agg (List.toArray [.int .u64 0, .int .u64 0, .int .u32 0, .int .u8 0, .int .u8 0, .int .u8 0, .int .u8 0, .nilFunc, .pointer none, .int .i32 0, .int .i32 0])) by kernel_rfl, .agg _⟩
instance : Ag Try.prog 134 11 := ⟨_, Try.underlying134, rfl, by kernel_rfl⟩
instance : FieldAt Try.prog 134 0 0 := ⟨_, _, 0, Try.underlying134, rfl, rfl, by kernel_rfl⟩
instance : FieldAt Try.prog 134 1 1 := ⟨_, _, 0, Try.underlying134, rfl, rfl, by kernel_rfl⟩
instance : FieldAt Try.prog 134 2 2 := ⟨_, _, 0, Try.underlying134, rfl, rfl, by kernel_rfl⟩
instance : FieldAt Try.prog 134 3 3 := ⟨_, _, 0, Try.underlying134, rfl, rfl, by kernel_rfl⟩
instance : FieldAt Try.prog 134 4 4 := ⟨_, _, 0, Try.underlying134, rfl, rfl, by kernel_rfl⟩
instance : FieldAt Try.prog 134 5 5 := ⟨_, _, 0, Try.underlying134, rfl, rfl, by kernel_rfl⟩
instance : FieldAt Try.prog 134 6 6 := ⟨_, _, 0, Try.underlying134, rfl, rfl, by kernel_rfl⟩
instance : FieldAt Try.prog 134 7 7 := ⟨_, _, 0, Try.underlying134, rfl, rfl, by kernel_rfl⟩
instance : FieldAt Try.prog 134 8 8 := ⟨_, _, 0, Try.underlying134, rfl, rfl, by kernel_rfl⟩
instance : FieldAt Try.prog 134 9 9 := ⟨_, _, 0, Try.underlying134, rfl, rfl, by kernel_rfl⟩
instance : FieldAt Try.prog 134 10 10 := ⟨_, _, 0, Try.underlying134, rfl, rfl, by kernel_rfl⟩
instance : OffsT Try.prog 134 [(0, 1), (1, 1), (2, 1), (3, 1), (4, 1), (5, 1), (6, 1), (7, 1), (8, 1), (9, 1), (10, 1)] [.int .u64 0, .int .u64 0, .int .u32 0, .int .u8 0, .int .u8 0, .int .u8 0, .int .u8 0, .nilFunc, .pointer none, .int .i32 0, .int .i32 0] := ⟨(([(0, 1), (1, 1), (2, 1), (3, 1), (4, 1), (5, 1), (6, 1), (7, 1), (8, 1), (9, 1), (10, 1)] : List (Nat × Nat)).toArray[·]?), fun _ => by kernel_rfl, fun i p h => by simpa using h⟩
instance : ZeroT Try.prog 134 [.int .u64 0, .int .u64 0, .int .u32 0, .int .u8 0, .int .u8 0, .int .u8 0, .int .u8 0, .nilFunc, .pointer none, .int .i32 0, .int .i32 0] := ⟨_, show still Try.prog (zeroValue 134) = some (.agg (List.toArray [.int .u64 0, .int .u64 0, .int .u32 0, .int .u8 0, .int .u8 0, .int .u8 0, .int .u8 0, .nilFunc, .pointer none, .int .i32 0, .int .i32 0])) by kernel_rfl, .agg _⟩
instance : Sc Try.prog 135 := ⟨_, Try.underlying135, rfl, by kernel_rfl⟩
-- type 135: ('unsafePointer',)
end Go.Proofs.Ytkbkppoefgojaaa
