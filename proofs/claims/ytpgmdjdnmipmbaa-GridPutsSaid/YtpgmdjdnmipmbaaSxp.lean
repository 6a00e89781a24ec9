/- What the types of this program are. -/
import Derived.Test.YtpgmdjdnmipmbaaSx14
import Derived.Test.YtpgmdjdnmipmbaaRows
namespace Go.Proofs.Ytpgmdjdnmipmbaa
open Go Go.RowKit Go.Fw Go.Sx
set_option maxRecDepth 100000
instance : Wide Try.prog := ⟨by kernel_rfl⟩
instance : Sc Try.prog 1 := ⟨_, Try.underlying1, rfl, by kernel_rfl⟩
instance : ZeroT Try.prog 1 [.nilFunc] := ⟨.nilFunc, by kernel_rfl, .one rfl⟩
instance : Sc Try.prog 2 := ⟨_, Try.underlying2, rfl, by kernel_rfl⟩
instance : ZeroT Try.prog 2 [.int .i64 0] := ⟨.int .i64 0, by kernel_rfl, .one rfl⟩
instance : IntT Try.prog 2 .i64 := ⟨Try.underlying2⟩
instance : Sc Try.prog 3 := ⟨_, Try.underlying3, rfl, by kernel_rfl⟩
instance : ZeroT Try.prog 3 [.int .i64 0] := ⟨.int .i64 0, by kernel_rfl, .one rfl⟩
instance : IntT Try.prog 3 .i64 := ⟨Try.underlying3⟩
instance : Sc Try.prog 4 := ⟨_, Try.underlying4, rfl, by kernel_rfl⟩
instance : ZeroT Try.prog 4 [.bool false] := ⟨.bool false, by kernel_rfl, .one rfl⟩
instance : Sc Try.prog 5 := ⟨_, Try.underlying5, rfl, by kernel_rfl⟩
instance : ZeroT Try.prog 5 [.int .u8 0] := ⟨.int .u8 0, by kernel_rfl, .one rfl⟩
instance : IntT Try.prog 5 .u8 := ⟨Try.underlying5⟩
instance : Sc Try.prog 6 := ⟨_, Try.underlying6, rfl, by kernel_rfl⟩
instance : ZeroT Try.prog 6 [.int .u8 0] := ⟨.int .u8 0, by kernel_rfl, .one rfl⟩
instance : IntT Try.prog 6 .u8 := ⟨Try.underlying6⟩
instance : Ag Try.prog 7 4 := ⟨_, Try.underlying7, rfl, by kernel_rfl⟩
instance : FieldAt Try.prog 7 0 0 := ⟨_, _, 0, Try.underlying7, rfl, rfl, by kernel_rfl⟩
instance : FieldAt Try.prog 7 1 1 := ⟨_, _, 0, Try.underlying7, rfl, rfl, by kernel_rfl⟩
instance : FieldAt Try.prog 7 2 2 := ⟨_, _, 0, Try.underlying7, rfl, rfl, by kernel_rfl⟩
instance : FieldAt Try.prog 7 3 3 := ⟨_, _, 0, Try.underlying7, rfl, rfl, by kernel_rfl⟩
instance : OffsT Try.prog 7 [(0, 1), (1, 1), (2, 1), (3, 1)] [.int .i64 0, .int .i64 0, .bool false, .int .u8 0] := ⟨(([(0, 1), (1, 1), (2, 1), (3, 1)] : List (Nat × Nat)).toArray[·]?), fun _ => by kernel_rfl, fun i p h => by simpa using h⟩
instance : ZeroT Try.prog 7 [.int .i64 0, .int .i64 0, .bool false, .int .u8 0] := ⟨_, show still Try.prog (zeroValue 7) = some (.agg (List.toArray [.int .i64 0, .int .i64 0, .bool false, .int .u8 0])) by kernel_rfl, .agg _⟩
instance : Ag Try.prog 8 4 := ⟨_, Try.underlying8, rfl, by kernel_rfl⟩
instance : FieldAt Try.prog 8 0 0 := ⟨_, _, 0, Try.underlying8, rfl, rfl, by kernel_rfl⟩
instance : FieldAt Try.prog 8 1 1 := ⟨_, _, 0, Try.underlying8, rfl, rfl, by kernel_rfl⟩
instance : FieldAt Try.prog 8 2 2 := ⟨_, _, 0, Try.underlying8, rfl, rfl, by kernel_rfl⟩
instance : FieldAt Try.prog 8 3 3 := ⟨_, _, 0, Try.underlying8, rfl, rfl, by kernel_rfl⟩
instance : OffsT Try.prog 8 [(0, 1), (1, 1), (2, 1), (3, 1)] [.int .i64 0, .int .i64 0, .bool false, .int .u8 0] := ⟨(([(0, 1), (1, 1), (2, 1), (3, 1)] : List (Nat × Nat)).toArray[·]?), fun _ => by kernel_rfl, fun i p h => by simpa using h⟩
instance : ZeroT Try.prog 8 [.int .i64 0, .int .i64 0, .bool false, .int .u8 0] := ⟨_, show still Try.prog (zeroValue 8) = some (.agg (List.toArray [.int .i64 0, .int .i64 0, .bool false, .int .u8 0])) by kernel_rfl, .agg _⟩
instance : Sc Try.prog 9 := ⟨_, Try.underlying9, rfl, by kernel_rfl⟩
instance : ZeroT Try.prog 9 [.string .empty] := ⟨.string .empty, by kernel_rfl, .one rfl⟩
instance : StrT Try.prog 9 := ⟨Try.underlying9⟩
instance : Sc Try.prog 10 := ⟨_, Try.underlying10, rfl, by kernel_rfl⟩
instance : ZeroT Try.prog 10 [.string .empty] := ⟨.string .empty, by kernel_rfl, .one rfl⟩
instance : StrT Try.prog 10 := ⟨Try.underlying10⟩
instance : Sc Try.prog 11 := ⟨_, Try.underlying11, rfl, by kernel_rfl⟩
instance : ZeroT Try.prog 11 [.string .empty] := ⟨.string .empty, by kernel_rfl, .one rfl⟩
instance : StrT Try.prog 11 := ⟨Try.underlying11⟩
instance : Sc Try.prog 12 := ⟨_, Try.underlying12, rfl, by kernel_rfl⟩
instance : ZeroT Try.prog 12 [.int .u64 0] := ⟨.int .u64 0, by kernel_rfl, .one rfl⟩
instance : IntT Try.prog 12 .u64 := ⟨Try.underlying12⟩
instance : Ag Try.prog 13 2 := ⟨_, Try.underlying13, rfl, by kernel_rfl⟩
instance : FieldAt Try.prog 13 0 0 := ⟨_, _, 0, Try.underlying13, rfl, rfl, by kernel_rfl⟩
instance : FieldAt Try.prog 13 1 1 := ⟨_, _, 0, Try.underlying13, rfl, rfl, by kernel_rfl⟩
instance : OffsT Try.prog 13 [(0, 1), (1, 1)] [.string .empty, .int .u64 0] := ⟨(([(0, 1), (1, 1)] : List (Nat × Nat)).toArray[·]?), fun _ => by kernel_rfl, fun i p h => by simpa using h⟩
instance : ZeroT Try.prog 13 [.string .empty, .int .u64 0] := ⟨_, show still Try.prog (zeroValue 13) = some (.agg (List.toArray [.string .empty, .int .u64 0])) by kernel_rfl, .agg _⟩
instance : Ag Try.prog 14 2 := ⟨_, Try.underlying14, rfl, by kernel_rfl⟩
instance : FieldAt Try.prog 14 0 0 := ⟨_, _, 0, Try.underlying14, rfl, rfl, by kernel_rfl⟩
instance : FieldAt Try.prog 14 1 1 := ⟨_, _, 0, Try.underlying14, rfl, rfl, by kernel_rfl⟩
instance : OffsT Try.prog 14 [(0, 1), (1, 1)] [.string .empty, .int .u64 0] := ⟨(([(0, 1), (1, 1)] : List (Nat × Nat)).toArray[·]?), fun _ => by kernel_rfl, fun i p h => by simpa using h⟩
instance : ZeroT Try.prog 14 [.string .empty, .int .u64 0] := ⟨_, show still Try.prog (zeroValue 14) = some (.agg (List.toArray [.string .empty, .int .u64 0])) by kernel_rfl, .agg _⟩
instance : Sc Try.prog 15 := ⟨_, Try.underlying15, rfl, by kernel_rfl⟩
instance : ZeroT Try.prog 15 [.pointer none] := ⟨.pointer none, by kernel_rfl, .one rfl⟩
instance : Sc Try.prog 16 := ⟨_, Try.underlying16, rfl, by kernel_rfl⟩
instance : ZeroT Try.prog 16 [.pointer none] := ⟨.pointer none, by kernel_rfl, .one rfl⟩
instance : Sc Try.prog 17 := ⟨_, Try.underlying17, rfl, by kernel_rfl⟩
instance : ZeroT Try.prog 17 [.pointer none] := ⟨.pointer none, by kernel_rfl, .one rfl⟩
instance : Ag Try.prog 18 1 := ⟨_, Try.underlying18, rfl, by kernel_rfl⟩
instance : FieldAt Try.prog 18 0 0 := ⟨_, _, 0, Try.underlying18, rfl, rfl, by kernel_rfl⟩
instance : OffsT Try.prog 18 [(0, 1)] [.pointer none] := ⟨(([(0, 1)] : List (Nat × Nat)).toArray[·]?), fun _ => by kernel_rfl, fun i p h => by simpa using h⟩
instance : ZeroT Try.prog 18 [.pointer none] := ⟨_, show still Try.prog (zeroValue 18) = some (.agg (List.toArray [.pointer none])) by kernel_rfl, .agg _⟩
instance : Ag Try.prog 19 1 := ⟨_, Try.underlying19, rfl, by kernel_rfl⟩
instance : FieldAt Try.prog 19 0 0 := ⟨_, _, 0, Try.underlying19, rfl, rfl, by kernel_rfl⟩
instance : OffsT Try.prog 19 [(0, 1)] [.pointer none] := ⟨(([(0, 1)] : List (Nat × Nat)).toArray[·]?), fun _ => by kernel_rfl, fun i p h => by simpa using h⟩
instance : ZeroT Try.prog 19 [.pointer none] := ⟨_, show still Try.prog (zeroValue 19) = some (.agg (List.toArray [.pointer none])) by kernel_rfl, .agg _⟩
instance : Sc Try.prog 20 := ⟨_, Try.underlying20, rfl, by kernel_rfl⟩
instance : ZeroT Try.prog 20 [.nilIface] := ⟨.nilIface, by kernel_rfl, .one rfl⟩
instance : Sc Try.prog 21 := ⟨_, Try.underlying21, rfl, by kernel_rfl⟩
instance : ZeroT Try.prog 21 [.int .i32 0] := ⟨.int .i32 0, by kernel_rfl, .one rfl⟩
instance : IntT Try.prog 21 .i32 := ⟨Try.underlying21⟩
instance : Sc Try.prog 22 := ⟨_, Try.underlying22, rfl, by kernel_rfl⟩
instance : ZeroT Try.prog 22 [.slice none 0 0] := ⟨.slice none 0 0, by kernel_rfl, .one rfl⟩
instance : SliceT Try.prog 22 9 1 16 := ⟨Try.underlying22, by decide, by decide, .string .empty, by kernel_rfl, by kernel_rfl⟩
instance : Ag Try.prog 23 2 := ⟨_, Try.underlying23, rfl, by kernel_rfl⟩
instance : FieldAt Try.prog 23 0 0 := ⟨_, _, 0, Try.underlying23, rfl, rfl, by kernel_rfl⟩
instance : FieldAt Try.prog 23 1 1 := ⟨_, _, 0, Try.underlying23, rfl, rfl, by kernel_rfl⟩
instance : OffsT Try.prog 23 [(0, 1), (1, 1)] [.slice none 0 0, .int .i64 0] := ⟨(([(0, 1), (1, 1)] : List (Nat × Nat)).toArray[·]?), fun _ => by kernel_rfl, fun i p h => by simpa using h⟩
instance : ZeroT Try.prog 23 [.slice none 0 0, .int .i64 0] := ⟨_, show still Try.prog (zeroValue 23) = some (.agg (List.toArray [.slice none 0 0, .int .i64 0])) by kernel_rfl, .agg _⟩
instance : Ag Try.prog 24 2 := ⟨_, Try.underlying24, rfl, by kernel_rfl⟩
instance : FieldAt Try.prog 24 0 0 := ⟨_, _, 0, Try.underlying24, rfl, rfl, by kernel_rfl⟩
instance : FieldAt Try.prog 24 1 1 := ⟨_, _, 0, Try.underlying24, rfl, rfl, by kernel_rfl⟩
instance : OffsT Try.prog 24 [(0, 1), (1, 1)] [.slice none 0 0, .int .i64 0] := ⟨(([(0, 1), (1, 1)] : List (Nat × Nat)).toArray[·]?), fun _ => by kernel_rfl, fun i p h => by simpa using h⟩
instance : ZeroT Try.prog 24 [.slice none 0 0, .int .i64 0] := ⟨_, show still Try.prog (zeroValue 24) = some (.agg (List.toArray [.slice none 0 0, .int .i64 0])) by kernel_rfl, .agg _⟩
instance : Sc Try.prog 25 := ⟨_, Try.underlying25, rfl, by kernel_rfl⟩
instance : ZeroT Try.prog 25 [.int .i64 0] := ⟨.int .i64 0, by kernel_rfl, .one rfl⟩
instance : IntT Try.prog 25 .i64 := ⟨Try.underlying25⟩
instance : Sc Try.prog 27 := ⟨_, Try.underlying27, rfl, by kernel_rfl⟩
instance : ZeroT Try.prog 27 [.nilFunc] := ⟨.nilFunc, by kernel_rfl, .one rfl⟩
instance : Sc Try.prog 28 := ⟨_, Try.underlying28, rfl, by kernel_rfl⟩
instance : ZeroT Try.prog 28 [.nilFunc] := ⟨.nilFunc, by kernel_rfl, .one rfl⟩
instance : Sc Try.prog 29 := ⟨_, Try.underlying29, rfl, by kernel_rfl⟩
instance : ZeroT Try.prog 29 [.nilFunc] := ⟨.nilFunc, by kernel_rfl, .one rfl⟩
instance : Sc Try.prog 30 := ⟨_, Try.underlying30, rfl, by kernel_rfl⟩
instance : ZeroT Try.prog 30 [.nilFunc] := ⟨.nilFunc, by kernel_rfl, .one rfl⟩
instance : Sc Try.prog 31 := ⟨_, Try.underlying31, rfl, by kernel_rfl⟩
instance : ZeroT Try.prog 31 [.nilFunc] := ⟨.nilFunc, by kernel_rfl, .one rfl⟩
instance : Sc Try.prog 33 := ⟨_, Try.underlying33, rfl, by kernel_rfl⟩
instance : ZeroT Try.prog 33 [.nilFunc] := ⟨.nilFunc, by kernel_rfl, .one rfl⟩
instance : Sc Try.prog 34 := ⟨_, Try.underlying34, rfl, by kernel_rfl⟩
instance : ZeroT Try.prog 34 [.nilFunc] := ⟨.nilFunc, by kernel_rfl, .one rfl⟩
instance : Sc Try.prog 35 := ⟨_, Try.underlying35, rfl, by kernel_rfl⟩
instance : ZeroT Try.prog 35 [.nilFunc] := ⟨.nilFunc, by kernel_rfl, .one rfl⟩
instance : Ag Try.prog 36 19 := ⟨_, Try.underlying36, rfl, by kernel_rfl⟩
instance : ArrT Try.prog 36 19 5 1 := ⟨Try.underlying36, by kernel_rfl⟩
instance : OffsT Try.prog 36 (arrOffs 19 1) [.int .u8 0, .int .u8 0, .int .u8 0, .int .u8 0, .int .u8 0, .int .u8 0, .int .u8 0, .int .u8 0, .int .u8 0, .int .u8 0, .int .u8 0, .int .u8 0, .int .u8 0, .int .u8 0, .int .u8 0, .int .u8 0, .int .u8 0, .int .u8 0, .int .u8 0] := ⟨fun i => some (i * 1, 1), fun _ => by kernel_rfl, arrOffs_at 19 1⟩
instance : ZeroT Try.prog 36 [.int .u8 0, .int .u8 0, .int .u8 0, .int .u8 0, .int .u8 0, .int .u8 0, .int .u8 0, .int .u8 0, .int .u8 0, .int .u8 0, .int .u8 0, .int .u8 0, .int .u8 0, .int .u8 0, .int .u8 0, .int .u8 0, .int .u8 0, .int .u8 0, .int .u8 0] := ⟨_, show still Try.prog (zeroValue 36) = some (.agg (List.toArray [.int .u8 0, .int .u8 0, .int .u8 0, .int .u8 0, .int .u8 0, .int .u8 0, .int .u8 0, .int .u8 0, .int .u8 0, .int .u8 0, .int .u8 0, .int .u8 0, .int .u8 0, .int .u8 0, .int .u8 0, .int .u8 0, .int .u8 0, .int .u8 0, .int .u8 0])) by kernel_rfl, .agg _⟩
instance : Ag Try.prog 37 38 := ⟨_, Try.underlying37, rfl, by kernel_rfl⟩
instance : FieldAt Try.prog 37 0 0 := ⟨_, _, 18, Try.underlying37, rfl, rfl, by kernel_rfl⟩
instance : FieldAt Try.prog 37 1 19 := ⟨_, _, 18, Try.underlying37, rfl, rfl, by kernel_rfl⟩
instance : OffsT Try.prog 37 [(0, 19), (19, 19)] [.int .u8 0, .int .u8 0, .int .u8 0, .int .u8 0, .int .u8 0, .int .u8 0, .int .u8 0, .int .u8 0, .int .u8 0, .int .u8 0, .int .u8 0, .int .u8 0, .int .u8 0, .int .u8 0, .int .u8 0, .int .u8 0, .int .u8 0, .int .u8 0, .int .u8 0, .int .u8 0, .int .u8 0, .int .u8 0, .int .u8 0, .int .u8 0, .int .u8 0, .int .u8 0, .int .u8 0, .int .u8 0, .int .u8 0, .int .u8 0, .int .u8 0, .int .u8 0, .int .u8 0, .int .u8 0, .int .u8 0, .int .u8 0, .int .u8 0, .int .u8 0] := ⟨(([(0, 19), (19, 19)] : List (Nat × Nat)).toArray[·]?), fun _ => by kernel_rfl, fun i p h => by simpa using h⟩
instance : ZeroT Try.prog 37 [.int .u8 0, .int .u8 0, .int .u8 0, .int .u8 0, .int .u8 0, .int .u8 0, .int .u8 0, .int .u8 0, .int .u8 0, .int .u8 0, .int .u8 0, .int .u8 0, .int .u8 0, .int .u8 0, .int .u8 0, .int .u8 0, .int .u8 0, .int .u8 0, .int .u8 0, .int .u8 0, .int .u8 0, .int .u8 0, .int .u8 0, .int .u8 0, .int .u8 0, .int .u8 0, .int .u8 0, .int .u8 0, .int .u8 0, .int .u8 0, .int .u8 0, .int .u8 0, .int .u8 0, .int .u8 0, .int .u8 0, .int .u8 0, .int .u8 0, .int .u8 0] := ⟨_, show still Try.prog (zeroValue 37) = some (.agg (List.toArray [.int .u8 0, .int .u8 0, .int .u8 0, .int .u8 0, .int .u8 0, .int .u8 0, .int .u8 0, .int .u8 0, .int .u8 0, .int .u8 0, .int .u8 0, .int .u8 0, .int .u8 0, .int .u8 0, .int .u8 0, .int .u8 0, .int .u8 0, .int .u8 0, .int .u8 0, .int .u8 0, .int .u8 0, .int .u8 0, .int .u8 0, .int .u8 0, .int .u8 0, .int .u8 0, .int .u8 0, .int .u8 0, .int .u8 0, .int .u8 0, .int .u8 0, .int .u8 0, .int .u8 0, .int .u8 0, .int .u8 0, .int .u8 0, .int .u8 0, .int .u8 0])) by kernel_rfl, .agg _⟩
instance : Ag Try.prog 38 38 := ⟨_, Try.underlying38, rfl, by kernel_rfl⟩
instance : FieldAt Try.prog 38 0 0 := ⟨_, _, 18, Try.underlying38, rfl, rfl, by kernel_rfl⟩
instance : FieldAt Try.prog 38 1 19 := ⟨_, _, 18, Try.underlying38, rfl, rfl, by kernel_rfl⟩
instance : OffsT Try.prog 38 [(0, 19), (19, 19)] [.int .u8 0, .int .u8 0, .int .u8 0, .int .u8 0, .int .u8 0, .int .u8 0, .int .u8 0, .int .u8 0, .int .u8 0, .int .u8 0, .int .u8 0, .int .u8 0, .int .u8 0, .int .u8 0, .int .u8 0, .int .u8 0, .int .u8 0, .int .u8 0, .int .u8 0, .int .u8 0, .int .u8 0, .int .u8 0, .int .u8 0, .int .u8 0, .int .u8 0, .int .u8 0, .int .u8 0, .int .u8 0, .int .u8 0, .int .u8 0, .int .u8 0, .int .u8 0, .int .u8 0, .int .u8 0, .int .u8 0, .int .u8 0, .int .u8 0, .int .u8 0] := ⟨(([(0, 19), (19, 19)] : List (Nat × Nat)).toArray[·]?), fun _ => by kernel_rfl, fun i p h => by simpa using h⟩
instance : ZeroT Try.prog 38 [.int .u8 0, .int .u8 0, .int .u8 0, .int .u8 0, .int .u8 0, .int .u8 0, .int .u8 0, .int .u8 0, .int .u8 0, .int .u8 0, .int .u8 0, .int .u8 0, .int .u8 0, .int .u8 0, .int .u8 0, .int .u8 0, .int .u8 0, .int .u8 0, .int .u8 0, .int .u8 0, .int .u8 0, .int .u8 0, .int .u8 0, .int .u8 0, .int .u8 0, .int .u8 0, .int .u8 0, .int .u8 0, .int .u8 0, .int .u8 0, .int .u8 0, .int .u8 0, .int .u8 0, .int .u8 0, .int .u8 0, .int .u8 0, .int .u8 0, .int .u8 0] := ⟨_, show still Try.prog (zeroValue 38) = some (.agg (List.toArray [.int .u8 0, .int .u8 0, .int .u8 0, .int .u8 0, .int .u8 0, .int .u8 0, .int .u8 0, .int .u8 0, .int .u8 0, .int .u8 0, .int .u8 0, .int .u8 0, .int .u8 0, .int .u8 0, .int .u8 0, .int .u8 0, .int .u8 0, .int .u8 0, .int .u8 0, .int .u8 0, .int .u8 0, .int .u8 0, .int .u8 0, .int .u8 0, .int .u8 0, .int .u8 0, .int .u8 0, .int .u8 0, .int .u8 0, .int .u8 0, .int .u8 0, .int .u8 0, .int .u8 0, .int .u8 0, .int .u8 0, .int .u8 0, .int .u8 0, .int .u8 0])) by kernel_rfl, .agg _⟩
instance : Sc Try.prog 40 := ⟨_, Try.underlying40, rfl, by kernel_rfl⟩
instance : ZeroT Try.prog 40 [.nilFunc] := ⟨.nilFunc, by kernel_rfl, .one rfl⟩
instance : Sc Try.prog 42 := ⟨_, Try.underlying42, rfl, by kernel_rfl⟩
instance : ZeroT Try.prog 42 [.nilFunc] := ⟨.nilFunc, by kernel_rfl, .one rfl⟩
instance : Sc Try.prog 43 := ⟨_, Try.underlying43, rfl, by kernel_rfl⟩
instance : ZeroT Try.prog 43 [.nilFunc] := ⟨.nilFunc, by kernel_rfl, .one rfl⟩
instance : Sc Try.prog 44 := ⟨_, Try.underlying44, rfl, by kernel_rfl⟩
instance : ZeroT Try.prog 44 [.nilFunc] := ⟨.nilFunc, by kernel_rfl, .one rfl⟩
instance : Sc Try.prog 46 := ⟨_, Try.underlying46, rfl, by kernel_rfl⟩
instance : ZeroT Try.prog 46 [.nilFunc] := ⟨.nilFunc, by kernel_rfl, .one rfl⟩
instance : Sc Try.prog 47 := ⟨_, Try.underlying47, rfl, by kernel_rfl⟩
instance : ZeroT Try.prog 47 [.nilFunc] := ⟨.nilFunc, by kernel_rfl, .one rfl⟩
instance : Ag Try.prog 48 256 := ⟨_, Try.underlying48, rfl, by kernel_rfl⟩
instance : ArrT Try.prog 48 256 5 1 := ⟨Try.underlying48, by kernel_rfl⟩
instance : Sc Try.prog 49 := ⟨_, Try.underlying49, rfl, by kernel_rfl⟩
instance : ZeroT Try.prog 49 [.int .u64 0] := ⟨.int .u64 0, by kernel_rfl, .one rfl⟩
instance : IntT Try.prog 49 .u64 := ⟨Try.underlying49⟩
instance : Ag Try.prog 50 4 := ⟨_, Try.underlying50, rfl, by kernel_rfl⟩
instance : ArrT Try.prog 50 4 49 1 := ⟨Try.underlying50, by kernel_rfl⟩
instance : OffsT Try.prog 50 (arrOffs 4 1) [.int .u64 0, .int .u64 0, .int .u64 0, .int .u64 0] := ⟨fun i => some (i * 1, 1), fun _ => by kernel_rfl, arrOffs_at 4 1⟩
instance : ZeroT Try.prog 50 [.int .u64 0, .int .u64 0, .int .u64 0, .int .u64 0] := ⟨_, show still Try.prog (zeroValue 50) = some (.agg (List.toArray [.int .u64 0, .int .u64 0, .int .u64 0, .int .u64 0])) by kernel_rfl, .agg _⟩
instance : Ag Try.prog 51 520 := ⟨_, Try.underlying51, rfl, by kernel_rfl⟩
instance : FieldAt Try.prog 51 0 0 := ⟨_, _, 255, Try.underlying51, rfl, rfl, by kernel_rfl⟩
instance : FieldAt Try.prog 51 1 256 := ⟨_, _, 255, Try.underlying51, rfl, rfl, by kernel_rfl⟩
instance : FieldAt Try.prog 51 2 512 := ⟨_, _, 3, Try.underlying51, rfl, rfl, by kernel_rfl⟩
instance : FieldAt Try.prog 51 3 516 := ⟨_, _, 3, Try.underlying51, rfl, rfl, by kernel_rfl⟩
instance : Ag Try.prog 52 520 := ⟨_, Try.underlying52, rfl, by kernel_rfl⟩
instance : FieldAt Try.prog 52 0 0 := ⟨_, _, 255, Try.underlying52, rfl, rfl, by kernel_rfl⟩
instance : FieldAt Try.prog 52 1 256 := ⟨_, _, 255, Try.underlying52, rfl, rfl, by kernel_rfl⟩
instance : FieldAt Try.prog 52 2 512 := ⟨_, _, 3, Try.underlying52, rfl, rfl, by kernel_rfl⟩
instance : FieldAt Try.prog 52 3 516 := ⟨_, _, 3, Try.underlying52, rfl, rfl, by kernel_rfl⟩
instance : Sc Try.prog 54 := ⟨_, Try.underlying54, rfl, by kernel_rfl⟩
instance : ZeroT Try.prog 54 [.nilFunc] := ⟨.nilFunc, by kernel_rfl, .one rfl⟩
instance : Sc Try.prog 55 := ⟨_, Try.underlying55, rfl, by kernel_rfl⟩
instance : ZeroT Try.prog 55 [.nilFunc] := ⟨.nilFunc, by kernel_rfl, .one rfl⟩
instance : Ag Try.prog 56 4 := ⟨_, Try.underlying56, rfl, by kernel_rfl⟩
instance : FieldAt Try.prog 56 0 0 := ⟨_, _, 0, Try.underlying56, rfl, rfl, by kernel_rfl⟩
instance : FieldAt Try.prog 56 1 1 := ⟨_, _, 0, Try.underlying56, rfl, rfl, by kernel_rfl⟩
instance : FieldAt Try.prog 56 2 2 := ⟨_, _, 0, Try.underlying56, rfl, rfl, by kernel_rfl⟩
instance : FieldAt Try.prog 56 3 3 := ⟨_, _, 0, Try.underlying56, rfl, rfl, by kernel_rfl⟩
instance : OffsT Try.prog 56 [(0, 1), (1, 1), (2, 1), (3, 1)] [.int .i64 0, .int .i64 0, .int .i64 0, .string .empty] := ⟨(([(0, 1), (1, 1), (2, 1), (3, 1)] : List (Nat × Nat)).toArray[·]?), fun _ => by kernel_rfl, fun i p h => by simpa using h⟩
instance : ZeroT Try.prog 56 [.int .i64 0, .int .i64 0, .int .i64 0, .string .empty] := ⟨_, show still Try.prog (zeroValue 56) = some (.agg (List.toArray [.int .i64 0, .int .i64 0, .int .i64 0, .string .empty])) by kernel_rfl, .agg _⟩
instance : Ag Try.prog 57 4 := ⟨_, Try.underlying57, rfl, by kernel_rfl⟩
instance : FieldAt Try.prog 57 0 0 := ⟨_, _, 0, Try.underlying57, rfl, rfl, by kernel_rfl⟩
instance : FieldAt Try.prog 57 1 1 := ⟨_, _, 0, Try.underlying57, rfl, rfl, by kernel_rfl⟩
instance : FieldAt Try.prog 57 2 2 := ⟨_, _, 0, Try.underlying57, rfl, rfl, by kernel_rfl⟩
instance : FieldAt Try.prog 57 3 3 := ⟨_, _, 0, Try.underlying57, rfl, rfl, by kernel_rfl⟩
instance : OffsT Try.prog 57 [(0, 1), (1, 1), (2, 1), (3, 1)] [.int .i64 0, .int .i64 0, .int .i64 0, .string .empty] := ⟨(([(0, 1), (1, 1), (2, 1), (3, 1)] : List (Nat × Nat)).toArray[·]?), fun _ => by kernel_rfl, fun i p h => by simpa using h⟩
instance : ZeroT Try.prog 57 [.int .i64 0, .int .i64 0, .int .i64 0, .string .empty] := ⟨_, show still Try.prog (zeroValue 57) = some (.agg (List.toArray [.int .i64 0, .int .i64 0, .int .i64 0, .string .empty])) by kernel_rfl, .agg _⟩
instance : Sc Try.prog 58 := ⟨_, Try.underlying58, rfl, by kernel_rfl⟩
instance : ZeroT Try.prog 58 [.nilFunc] := ⟨.nilFunc, by kernel_rfl, .one rfl⟩
instance : Sc Try.prog 59 := ⟨_, Try.underlying59, rfl, by kernel_rfl⟩
instance : ZeroT Try.prog 59 [.nilFunc] := ⟨.nilFunc, by kernel_rfl, .one rfl⟩
instance : Sc Try.prog 60 := ⟨_, Try.underlying60, rfl, by kernel_rfl⟩
instance : ZeroT Try.prog 60 [.nilFunc] := ⟨.nilFunc, by kernel_rfl, .one rfl⟩
instance : Sc Try.prog 61 := ⟨_, Try.underlying61, rfl, by kernel_rfl⟩
instance : ZeroT Try.prog 61 [.slice none 0 0] := ⟨.slice none 0 0, by kernel_rfl, .one rfl⟩
instance : SliceT Try.prog 61 3 1 8 := ⟨Try.underlying61, by decide, by decide, .int .i64 0, by kernel_rfl, by kernel_rfl⟩
instance : Sc Try.prog 63 := ⟨_, Try.underlying63, rfl, by kernel_rfl⟩
instance : ZeroT Try.prog 63 [.nilFunc] := ⟨.nilFunc, by kernel_rfl, .one rfl⟩
instance : Sc Try.prog 65 := ⟨_, Try.underlying65, rfl, by kernel_rfl⟩
instance : ZeroT Try.prog 65 [.nilFunc] := ⟨.nilFunc, by kernel_rfl, .one rfl⟩
instance : Sc Try.prog 66 := ⟨_, Try.underlying66, rfl, by kernel_rfl⟩
instance : ZeroT Try.prog 66 [.nilFunc] := ⟨.nilFunc, by kernel_rfl, .one rfl⟩
instance : Sc Try.prog 67 := ⟨_, Try.underlying67, rfl, by kernel_rfl⟩
instance : ZeroT Try.prog 67 [.nilFunc] := ⟨.nilFunc, by kernel_rfl, .one rfl⟩
instance : Ag Try.prog 68 3 := ⟨_, Try.underlying68, rfl, by kernel_rfl⟩
instance : FieldAt Try.prog 68 0 0 := ⟨_, _, 0, Try.underlying68, rfl, rfl, by kernel_rfl⟩
instance : FieldAt Try.prog 68 1 1 := ⟨_, _, 0, Try.underlying68, rfl, rfl, by kernel_rfl⟩
instance : FieldAt Try.prog 68 2 2 := ⟨_, _, 0, Try.underlying68, rfl, rfl, by kernel_rfl⟩
instance : OffsT Try.prog 68 [(0, 1), (1, 1), (2, 1)] [.int .i64 0, .int .i64 0, .int .i64 0] := ⟨(([(0, 1), (1, 1), (2, 1)] : List (Nat × Nat)).toArray[·]?), fun _ => by kernel_rfl, fun i p h => by simpa using h⟩
instance : ZeroT Try.prog 68 [.int .i64 0, .int .i64 0, .int .i64 0] := ⟨_, show still Try.prog (zeroValue 68) = some (.agg (List.toArray [.int .i64 0, .int .i64 0, .int .i64 0])) by kernel_rfl, .agg _⟩
instance : Ag Try.prog 69 3 := ⟨_, Try.underlying69, rfl, by kernel_rfl⟩
instance : FieldAt Try.prog 69 0 0 := ⟨_, _, 0, Try.underlying69, rfl, rfl, by kernel_rfl⟩
instance : FieldAt Try.prog 69 1 1 := ⟨_, _, 0, Try.underlying69, rfl, rfl, by kernel_rfl⟩
instance : FieldAt Try.prog 69 2 2 := ⟨_, _, 0, Try.underlying69, rfl, rfl, by kernel_rfl⟩
instance : OffsT Try.prog 69 [(0, 1), (1, 1), (2, 1)] [.int .i64 0, .int .i64 0, .int .i64 0] := ⟨(([(0, 1), (1, 1), (2, 1)] : List (Nat × Nat)).toArray[·]?), fun _ => by kernel_rfl, fun i p h => by simpa using h⟩
instance : ZeroT Try.prog 69 [.int .i64 0, .int .i64 0, .int .i64 0] := ⟨_, show still Try.prog (zeroValue 69) = some (.agg (List.toArray [.int .i64 0, .int .i64 0, .int .i64 0])) by kernel_rfl, .agg _⟩
instance : Sc Try.prog 71 := ⟨_, Try.underlying71, rfl, by kernel_rfl⟩
instance : ZeroT Try.prog 71 [.nilFunc] := ⟨.nilFunc, by kernel_rfl, .one rfl⟩
instance : Sc Try.prog 72 := ⟨_, Try.underlying72, rfl, by kernel_rfl⟩
instance : ZeroT Try.prog 72 [.nilFunc] := ⟨.nilFunc, by kernel_rfl, .one rfl⟩
instance : Sc Try.prog 73 := ⟨_, Try.underlying73, rfl, by kernel_rfl⟩
instance : ZeroT Try.prog 73 [.nilFunc] := ⟨.nilFunc, by kernel_rfl, .one rfl⟩
instance : Sc Try.prog 75 := ⟨_, Try.underlying75, rfl, by kernel_rfl⟩
instance : ZeroT Try.prog 75 [.nilFunc] := ⟨.nilFunc, by kernel_rfl, .one rfl⟩
instance : Sc Try.prog 76 := ⟨_, Try.underlying76, rfl, by kernel_rfl⟩
instance : ZeroT Try.prog 76 [.nilFunc] := ⟨.nilFunc, by kernel_rfl, .one rfl⟩
instance : Sc Try.prog 77 := ⟨_, Try.underlying77, rfl, by kernel_rfl⟩
instance : ZeroT Try.prog 77 [.nilFunc] := ⟨.nilFunc, by kernel_rfl, .one rfl⟩
instance : Sc Try.prog 78 := ⟨_, Try.underlying78, rfl, by kernel_rfl⟩
instance : ZeroT Try.prog 78 [.nilFunc] := ⟨.nilFunc, by kernel_rfl, .one rfl⟩
instance : Sc Try.prog 79 := ⟨_, Try.underlying79, rfl, by kernel_rfl⟩
instance : ZeroT Try.prog 79 [.nilFunc] := ⟨.nilFunc, by kernel_rfl, .one rfl⟩
instance : Sc Try.prog 80 := ⟨_, Try.underlying80, rfl, by kernel_rfl⟩
instance : ZeroT Try.prog 80 [.nilFunc] := ⟨.nilFunc, by kernel_rfl, .one rfl⟩
instance : Sc Try.prog 81 := ⟨_, Try.underlying81, rfl, by kernel_rfl⟩
instance : ZeroT Try.prog 81 [.nilFunc] := ⟨.nilFunc, by kernel_rfl, .one rfl⟩
instance : Sc Try.prog 82 := ⟨_, Try.underlying82, rfl, by kernel_rfl⟩
instance : ZeroT Try.prog 82 [.slice none 0 0] := ⟨.slice none 0 0, by kernel_rfl, .one rfl⟩
instance : SliceT Try.prog 82 61 1 24 := ⟨Try.underlying82, by decide, by decide, .slice none 0 0, by kernel_rfl, by kernel_rfl⟩
instance : Sc Try.prog 83 := ⟨_, Try.underlying83, rfl, by kernel_rfl⟩
instance : ZeroT Try.prog 83 [.slice none 0 0] := ⟨.slice none 0 0, by kernel_rfl, .one rfl⟩
instance : SliceT Try.prog 83 146 2 32 := ⟨Try.underlying83, by decide, by decide, .agg #[.slice none 0 0, .bool false], by kernel_rfl, by kernel_rfl⟩
instance : Sc Try.prog 85 := ⟨_, Try.underlying85, rfl, by kernel_rfl⟩
instance : ZeroT Try.prog 85 [.nilFunc] := ⟨.nilFunc, by kernel_rfl, .one rfl⟩
instance : Sc Try.prog 87 := ⟨_, Try.underlying87, rfl, by kernel_rfl⟩
instance : ZeroT Try.prog 87 [.nilFunc] := ⟨.nilFunc, by kernel_rfl, .one rfl⟩
instance : Sc Try.prog 88 := ⟨_, Try.underlying88, rfl, by kernel_rfl⟩
instance : ZeroT Try.prog 88 [.nilFunc] := ⟨.nilFunc, by kernel_rfl, .one rfl⟩
instance : Sc Try.prog 89 := ⟨_, Try.underlying89, rfl, by kernel_rfl⟩
instance : ZeroT Try.prog 89 [.nilFunc] := ⟨.nilFunc, by kernel_rfl, .one rfl⟩
instance : Sc Try.prog 90 := ⟨_, Try.underlying90, rfl, by kernel_rfl⟩
instance : ZeroT Try.prog 90 [.nilFunc] := ⟨.nilFunc, by kernel_rfl, .one rfl⟩
instance : Sc Try.prog 91 := ⟨_, Try.underlying91, rfl, by kernel_rfl⟩
instance : ZeroT Try.prog 91 [.nilFunc] := ⟨.nilFunc, by kernel_rfl, .one rfl⟩
instance : Sc Try.prog 92 := ⟨_, Try.underlying92, rfl, by kernel_rfl⟩
instance : ZeroT Try.prog 92 [.slice none 0 0] := ⟨.slice none 0 0, by kernel_rfl, .one rfl⟩
instance : SliceT Try.prog 92 156 4 32 := ⟨Try.underlying92, by decide, by decide, .agg #[.int .i64 0, .int .i64 0, .int .i64 0, .int .i64 0], by kernel_rfl, by kernel_rfl⟩
instance : Ag Try.prog 93 3 := ⟨_, Try.underlying93, rfl, by kernel_rfl⟩
instance : FieldAt Try.prog 93 0 0 := ⟨_, _, 0, Try.underlying93, rfl, rfl, by kernel_rfl⟩
instance : FieldAt Try.prog 93 1 1 := ⟨_, _, 0, Try.underlying93, rfl, rfl, by kernel_rfl⟩
instance : FieldAt Try.prog 93 2 2 := ⟨_, _, 0, Try.underlying93, rfl, rfl, by kernel_rfl⟩
instance : OffsT Try.prog 93 [(0, 1), (1, 1), (2, 1)] [.int .i64 0, .int .i64 0, .slice none 0 0] := ⟨(([(0, 1), (1, 1), (2, 1)] : List (Nat × Nat)).toArray[·]?), fun _ => by kernel_rfl, fun i p h => by simpa using h⟩
instance : ZeroT Try.prog 93 [.int .i64 0, .int .i64 0, .slice none 0 0] := ⟨_, show still Try.prog (zeroValue 93) = some (.agg (List.toArray [.int .i64 0, .int .i64 0, .slice none 0 0])) by kernel_rfl, .agg _⟩
instance : Ag Try.prog 94 3 := ⟨_, Try.underlying94, rfl, by kernel_rfl⟩
instance : FieldAt Try.prog 94 0 0 := ⟨_, _, 0, Try.underlying94, rfl, rfl, by kernel_rfl⟩
instance : FieldAt Try.prog 94 1 1 := ⟨_, _, 0, Try.underlying94, rfl, rfl, by kernel_rfl⟩
instance : FieldAt Try.prog 94 2 2 := ⟨_, _, 0, Try.underlying94, rfl, rfl, by kernel_rfl⟩
instance : OffsT Try.prog 94 [(0, 1), (1, 1), (2, 1)] [.int .i64 0, .int .i64 0, .slice none 0 0] := ⟨(([(0, 1), (1, 1), (2, 1)] : List (Nat × Nat)).toArray[·]?), fun _ => by kernel_rfl, fun i p h => by simpa using h⟩
instance : ZeroT Try.prog 94 [.int .i64 0, .int .i64 0, .slice none 0 0] := ⟨_, show still Try.prog (zeroValue 94) = some (.agg (List.toArray [.int .i64 0, .int .i64 0, .slice none 0 0])) by kernel_rfl, .agg _⟩
instance : Sc Try.prog 96 := ⟨_, Try.underlying96, rfl, by kernel_rfl⟩
instance : ZeroT Try.prog 96 [.nilFunc] := ⟨.nilFunc, by kernel_rfl, .one rfl⟩
instance : Sc Try.prog 97 := ⟨_, Try.underlying97, rfl, by kernel_rfl⟩
instance : ZeroT Try.prog 97 [.nilFunc] := ⟨.nilFunc, by kernel_rfl, .one rfl⟩
instance : Sc Try.prog 98 := ⟨_, Try.underlying98, rfl, by kernel_rfl⟩
instance : ZeroT Try.prog 98 [.nilFunc] := ⟨.nilFunc, by kernel_rfl, .one rfl⟩
instance : Sc Try.prog 99 := ⟨_, Try.underlying99, rfl, by kernel_rfl⟩
instance : ZeroT Try.prog 99 [.nilFunc] := ⟨.nilFunc, by kernel_rfl, .one rfl⟩
instance : Sc Try.prog 100 := ⟨_, Try.underlying100, rfl, by kernel_rfl⟩
instance : ZeroT Try.prog 100 [.nilFunc] := ⟨.nilFunc, by kernel_rfl, .one rfl⟩
instance : Sc Try.prog 101 := ⟨_, Try.underlying101, rfl, by kernel_rfl⟩
instance : ZeroT Try.prog 101 [.nilFunc] := ⟨.nilFunc, by kernel_rfl, .one rfl⟩
instance : Sc Try.prog 102 := ⟨_, Try.underlying102, rfl, by kernel_rfl⟩
instance : ZeroT Try.prog 102 [.nilFunc] := ⟨.nilFunc, by kernel_rfl, .one rfl⟩
instance : Sc Try.prog 103 := ⟨_, Try.underlying103, rfl, by kernel_rfl⟩
instance : ZeroT Try.prog 103 [.nilFunc] := ⟨.nilFunc, by kernel_rfl, .one rfl⟩
instance : Sc Try.prog 104 := ⟨_, Try.underlying104, rfl, by kernel_rfl⟩
instance : ZeroT Try.prog 104 [.nilFunc] := ⟨.nilFunc, by kernel_rfl, .one rfl⟩
instance : Sc Try.prog 105 := ⟨_, Try.underlying105, rfl, by kernel_rfl⟩
instance : ZeroT Try.prog 105 [.nilFunc] := ⟨.nilFunc, by kernel_rfl, .one rfl⟩
instance : Sc Try.prog 106 := ⟨_, Try.underlying106, rfl, by kernel_rfl⟩
instance : ZeroT Try.prog 106 [.nilFunc] := ⟨.nilFunc, by kernel_rfl, .one rfl⟩
instance : Sc Try.prog 107 := ⟨_, Try.underlying107, rfl, by kernel_rfl⟩
instance : ZeroT Try.prog 107 [.slice none 0 0] := ⟨.slice none 0 0, by kernel_rfl, .one rfl⟩
instance : SliceT Try.prog 107 5 1 1 := ⟨Try.underlying107, by decide, by decide, .int .u8 0, by kernel_rfl, by kernel_rfl⟩
instance : Sc Try.prog 108 := ⟨_, Try.underlying108, rfl, by kernel_rfl⟩
instance : ZeroT Try.prog 108 [.nilFunc] := ⟨.nilFunc, by kernel_rfl, .one rfl⟩
instance : Sc Try.prog 109 := ⟨_, Try.underlying109, rfl, by kernel_rfl⟩
instance : ZeroT Try.prog 109 [.nilFunc] := ⟨.nilFunc, by kernel_rfl, .one rfl⟩
instance : Sc Try.prog 110 := ⟨_, Try.underlying110, rfl, by kernel_rfl⟩
instance : ZeroT Try.prog 110 [.nilFunc] := ⟨.nilFunc, by kernel_rfl, .one rfl⟩
instance : Sc Try.prog 111 := ⟨_, Try.underlying111, rfl, by kernel_rfl⟩
instance : ZeroT Try.prog 111 [.pointer none] := ⟨.pointer none, by kernel_rfl, .one rfl⟩
instance : Sc Try.prog 113 := ⟨_, Try.underlying113, rfl, by kernel_rfl⟩
instance : ZeroT Try.prog 113 [.nilFunc] := ⟨.nilFunc, by kernel_rfl, .one rfl⟩
instance : Sc Try.prog 114 := ⟨_, Try.underlying114, rfl, by kernel_rfl⟩
instance : ZeroT Try.prog 114 [.nilFunc] := ⟨.nilFunc, by kernel_rfl, .one rfl⟩
instance : Sc Try.prog 115 := ⟨_, Try.underlying115, rfl, by kernel_rfl⟩
instance : ZeroT Try.prog 115 [.nilFunc] := ⟨.nilFunc, by kernel_rfl, .one rfl⟩
instance : Ag Try.prog 116 76 := ⟨_, Try.underlying116, rfl, by kernel_rfl⟩
instance : ArrT Try.prog 116 2 38 38 := ⟨Try.underlying116, by kernel_rfl⟩
instance : Sc Try.prog 117 := ⟨_, Try.underlying117, rfl, by kernel_rfl⟩
instance : ZeroT Try.prog 117 [.pointer none] := ⟨.pointer none, by kernel_rfl, .one rfl⟩
instance : Sc Try.prog 119 := ⟨_, Try.underlying119, rfl, by kernel_rfl⟩
instance : ZeroT Try.prog 119 [.nilFunc] := ⟨.nilFunc, by kernel_rfl, .one rfl⟩
instance : Sc Try.prog 120 := ⟨_, Try.underlying120, rfl, by kernel_rfl⟩
instance : ZeroT Try.prog 120 [.nilFunc] := ⟨.nilFunc, by kernel_rfl, .one rfl⟩
instance : Sc Try.prog 121 := ⟨_, Try.underlying121, rfl, by kernel_rfl⟩
instance : ZeroT Try.prog 121 [.nilFunc] := ⟨.nilFunc, by kernel_rfl, .one rfl⟩
instance : Sc Try.prog 123 := ⟨_, Try.underlying123, rfl, by kernel_rfl⟩
instance : ZeroT Try.prog 123 [.nilFunc] := ⟨.nilFunc, by kernel_rfl, .one rfl⟩
instance : Sc Try.prog 125 := ⟨_, Try.underlying125, rfl, by kernel_rfl⟩
instance : ZeroT Try.prog 125 [.nilFunc] := ⟨.nilFunc, by kernel_rfl, .one rfl⟩
instance : Sc Try.prog 126 := ⟨_, Try.underlying126, rfl, by kernel_rfl⟩
instance : ZeroT Try.prog 126 [.nilFunc] := ⟨.nilFunc, by kernel_rfl, .one rfl⟩
instance : Ag Try.prog 127 512 := ⟨_, Try.underlying127, rfl, by kernel_rfl⟩
instance : ArrT Try.prog 127 2 48 256 := ⟨Try.underlying127, by kernel_rfl⟩
instance : Sc Try.prog 128 := ⟨_, Try.underlying128, rfl, by kernel_rfl⟩
instance : ZeroT Try.prog 128 [.nilFunc] := ⟨.nilFunc, by kernel_rfl, .one rfl⟩
instance : Sc Try.prog 129 := ⟨_, Try.underlying129, rfl, by kernel_rfl⟩
instance : ZeroT Try.prog 129 [.nilFunc] := ⟨.nilFunc, by kernel_rfl, .one rfl⟩
instance : Sc Try.prog 130 := ⟨_, Try.underlying130, rfl, by kernel_rfl⟩
instance : ZeroT Try.prog 130 [.nilFunc] := ⟨.nilFunc, by kernel_rfl, .one rfl⟩
instance : Sc Try.prog 132 := ⟨_, Try.underlying132, rfl, by kernel_rfl⟩
instance : ZeroT Try.prog 132 [.nilFunc] := ⟨.nilFunc, by kernel_rfl, .one rfl⟩
instance : Sc Try.prog 133 := ⟨_, Try.underlying133, rfl, by kernel_rfl⟩
instance : ZeroT Try.prog 133 [.nilFunc] := ⟨.nilFunc, by kernel_rfl, .one rfl⟩
instance : Sc Try.prog 134 := ⟨_, Try.underlying134, rfl, by kernel_rfl⟩
instance : ZeroT Try.prog 134 [.nilFunc] := ⟨.nilFunc, by kernel_rfl, .one rfl⟩
instance : Sc Try.prog 135 := ⟨_, Try.underlying135, rfl, by kernel_rfl⟩
instance : ZeroT Try.prog 135 [.nilFunc] := ⟨.nilFunc, by kernel_rfl, .one rfl⟩
instance : Sc Try.prog 136 := ⟨_, Try.underlying136, rfl, by kernel_rfl⟩
instance : ZeroT Try.prog 136 [.pointer none] := ⟨.pointer none, by kernel_rfl, .one rfl⟩
instance : Sc Try.prog 138 := ⟨_, Try.underlying138, rfl, by kernel_rfl⟩
instance : ZeroT Try.prog 138 [.nilFunc] := ⟨.nilFunc, by kernel_rfl, .one rfl⟩
instance : Sc Try.prog 139 := ⟨_, Try.underlying139, rfl, by kernel_rfl⟩
instance : ZeroT Try.prog 139 [.nilFunc] := ⟨.nilFunc, by kernel_rfl, .one rfl⟩
instance : Sc Try.prog 140 := ⟨_, Try.underlying140, rfl, by kernel_rfl⟩
instance : ZeroT Try.prog 140 [.nilFunc] := ⟨.nilFunc, by kernel_rfl, .one rfl⟩
instance : Sc Try.prog 141 := ⟨_, Try.underlying141, rfl, by kernel_rfl⟩
instance : ZeroT Try.prog 141 [.nilFunc] := ⟨.nilFunc, by kernel_rfl, .one rfl⟩
instance : Sc Try.prog 142 := ⟨_, Try.underlying142, rfl, by kernel_rfl⟩
instance : ZeroT Try.prog 142 [.int .u64 0] := ⟨.int .u64 0, by kernel_rfl, .one rfl⟩
instance : IntT Try.prog 142 .u64 := ⟨Try.underlying142⟩
instance : Sc Try.prog 144 := ⟨_, Try.underlying144, rfl, by kernel_rfl⟩
instance : ZeroT Try.prog 144 [.nilFunc] := ⟨.nilFunc, by kernel_rfl, .one rfl⟩
instance : Ag Try.prog 145 2 := ⟨_, Try.underlying145, rfl, by kernel_rfl⟩
instance : FieldAt Try.prog 145 0 0 := ⟨_, _, 0, Try.underlying145, rfl, rfl, by kernel_rfl⟩
instance : FieldAt Try.prog 145 1 1 := ⟨_, _, 0, Try.underlying145, rfl, rfl, by kernel_rfl⟩
instance : OffsT Try.prog 145 [(0, 1), (1, 1)] [.slice none 0 0, .bool false] := ⟨(([(0, 1), (1, 1)] : List (Nat × Nat)).toArray[·]?), fun _ => by kernel_rfl, fun i p h => by simpa using h⟩
instance : ZeroT Try.prog 145 [.slice none 0 0, .bool false] := ⟨_, show still Try.prog (zeroValue 145) = some (.agg (List.toArray [.slice none 0 0, .bool false])) by kernel_rfl, .agg _⟩
instance : Ag Try.prog 146 2 := ⟨_, Try.underlying146, rfl, by kernel_rfl⟩
instance : FieldAt Try.prog 146 0 0 := ⟨_, _, 0, Try.underlying146, rfl, rfl, by kernel_rfl⟩
instance : FieldAt Try.prog 146 1 1 := ⟨_, _, 0, Try.underlying146, rfl, rfl, by kernel_rfl⟩
instance : OffsT Try.prog 146 [(0, 1), (1, 1)] [.slice none 0 0, .bool false] := ⟨(([(0, 1), (1, 1)] : List (Nat × Nat)).toArray[·]?), fun _ => by kernel_rfl, fun i p h => by simpa using h⟩
instance : ZeroT Try.prog 146 [.slice none 0 0, .bool false] := ⟨_, show still Try.prog (zeroValue 146) = some (.agg (List.toArray [.slice none 0 0, .bool false])) by kernel_rfl, .agg _⟩
instance : Sc Try.prog 147 := ⟨_, Try.underlying147, rfl, by kernel_rfl⟩
instance : ZeroT Try.prog 147 [.nilFunc] := ⟨.nilFunc, by kernel_rfl, .one rfl⟩
instance : Sc Try.prog 148 := ⟨_, Try.underlying148, rfl, by kernel_rfl⟩
instance : ZeroT Try.prog 148 [.nilFunc] := ⟨.nilFunc, by kernel_rfl, .one rfl⟩
instance : Sc Try.prog 149 := ⟨_, Try.underlying149, rfl, by kernel_rfl⟩
instance : ZeroT Try.prog 149 [.nilFunc] := ⟨.nilFunc, by kernel_rfl, .one rfl⟩
instance : Sc Try.prog 150 := ⟨_, Try.underlying150, rfl, by kernel_rfl⟩
instance : ZeroT Try.prog 150 [.nilFunc] := ⟨.nilFunc, by kernel_rfl, .one rfl⟩
instance : Sc Try.prog 151 := ⟨_, Try.underlying151, rfl, by kernel_rfl⟩
instance : ZeroT Try.prog 151 [.nilFunc] := ⟨.nilFunc, by kernel_rfl, .one rfl⟩
instance : Sc Try.prog 152 := ⟨_, Try.underlying152, rfl, by kernel_rfl⟩
instance : ZeroT Try.prog 152 [.nilFunc] := ⟨.nilFunc, by kernel_rfl, .one rfl⟩
instance : Sc Try.prog 153 := ⟨_, Try.underlying153, rfl, by kernel_rfl⟩
instance : ZeroT Try.prog 153 [.nilFunc] := ⟨.nilFunc, by kernel_rfl, .one rfl⟩
instance : Sc Try.prog 154 := ⟨_, Try.underlying154, rfl, by kernel_rfl⟩
instance : ZeroT Try.prog 154 [.slice none 0 0] := ⟨.slice none 0 0, by kernel_rfl, .one rfl⟩
instance : SliceT Try.prog 154 92 1 24 := ⟨Try.underlying154, by decide, by decide, .slice none 0 0, by kernel_rfl, by kernel_rfl⟩
instance : Ag Try.prog 155 4 := ⟨_, Try.underlying155, rfl, by kernel_rfl⟩
instance : FieldAt Try.prog 155 0 0 := ⟨_, _, 0, Try.underlying155, rfl, rfl, by kernel_rfl⟩
instance : FieldAt Try.prog 155 1 1 := ⟨_, _, 2, Try.underlying155, rfl, rfl, by kernel_rfl⟩
instance : OffsT Try.prog 155 [(0, 1), (1, 3)] [.int .i64 0, .int .i64 0, .int .i64 0, .int .i64 0] := ⟨(([(0, 1), (1, 3)] : List (Nat × Nat)).toArray[·]?), fun _ => by kernel_rfl, fun i p h => by simpa using h⟩
instance : ZeroT Try.prog 155 [.int .i64 0, .int .i64 0, .int .i64 0, .int .i64 0] := ⟨_, show still Try.prog (zeroValue 155) = some (.agg (List.toArray [.int .i64 0, .int .i64 0, .int .i64 0, .int .i64 0])) by kernel_rfl, .agg _⟩
instance : Ag Try.prog 156 4 := ⟨_, Try.underlying156, rfl, by kernel_rfl⟩
instance : FieldAt Try.prog 156 0 0 := ⟨_, _, 0, Try.underlying156, rfl, rfl, by kernel_rfl⟩
instance : FieldAt Try.prog 156 1 1 := ⟨_, _, 2, Try.underlying156, rfl, rfl, by kernel_rfl⟩
instance : OffsT Try.prog 156 [(0, 1), (1, 3)] [.int .i64 0, .int .i64 0, .int .i64 0, .int .i64 0] := ⟨(([(0, 1), (1, 3)] : List (Nat × Nat)).toArray[·]?), fun _ => by kernel_rfl, fun i p h => by simpa using h⟩
instance : ZeroT Try.prog 156 [.int .i64 0, .int .i64 0, .int .i64 0, .int .i64 0] := ⟨_, show still Try.prog (zeroValue 156) = some (.agg (List.toArray [.int .i64 0, .int .i64 0, .int .i64 0, .int .i64 0])) by kernel_rfl, .agg _⟩
instance : Sc Try.prog 157 := ⟨_, Try.underlying157, rfl, by kernel_rfl⟩
instance : ZeroT Try.prog 157 [.nilFunc] := ⟨.nilFunc, by kernel_rfl, .one rfl⟩
instance : Sc Try.prog 158 := ⟨_, Try.underlying158, rfl, by kernel_rfl⟩
instance : ZeroT Try.prog 158 [.nilFunc] := ⟨.nilFunc, by kernel_rfl, .one rfl⟩
instance : Sc Try.prog 159 := ⟨_, Try.underlying159, rfl, by kernel_rfl⟩
instance : ZeroT Try.prog 159 [.nilFunc] := ⟨.nilFunc, by kernel_rfl, .one rfl⟩
instance : Sc Try.prog 160 := ⟨_, Try.underlying160, rfl, by kernel_rfl⟩
instance : ZeroT Try.prog 160 [.nilFunc] := ⟨.nilFunc, by kernel_rfl, .one rfl⟩
instance : Sc Try.prog 161 := ⟨_, Try.underlying161, rfl, by kernel_rfl⟩
instance : ZeroT Try.prog 161 [.nilFunc] := ⟨.nilFunc, by kernel_rfl, .one rfl⟩
instance : Sc Try.prog 162 := ⟨_, Try.underlying162, rfl, by kernel_rfl⟩
instance : ZeroT Try.prog 162 [.nilFunc] := ⟨.nilFunc, by kernel_rfl, .one rfl⟩
instance : Sc Try.prog 163 := ⟨_, Try.underlying163, rfl, by kernel_rfl⟩
instance : ZeroT Try.prog 163 [.nilFunc] := ⟨.nilFunc, by kernel_rfl, .one rfl⟩
instance : Sc Try.prog 164 := ⟨_, Try.underlying164, rfl, by kernel_rfl⟩
instance : ZeroT Try.prog 164 [.nilFunc] := ⟨.nilFunc, by kernel_rfl, .one rfl⟩
instance : Sc Try.prog 165 := ⟨_, Try.underlying165, rfl, by kernel_rfl⟩
instance : ZeroT Try.prog 165 [.nilFunc] := ⟨.nilFunc, by kernel_rfl, .one rfl⟩
instance : Sc Try.prog 166 := ⟨_, Try.underlying166, rfl, by kernel_rfl⟩
instance : ZeroT Try.prog 166 [.nilFunc] := ⟨.nilFunc, by kernel_rfl, .one rfl⟩
instance : Sc Try.prog 167 := ⟨_, Try.underlying167, rfl, by kernel_rfl⟩
instance : ZeroT Try.prog 167 [.nilFunc] := ⟨.nilFunc, by kernel_rfl, .one rfl⟩
instance : Ag Try.prog 168 32 := ⟨_, Try.underlying168, rfl, by kernel_rfl⟩
instance : ArrT Try.prog 168 32 3 1 := ⟨Try.underlying168, by kernel_rfl⟩
instance : OffsT Try.prog 168 (arrOffs 32 1) [.int .i64 0, .int .i64 0, .int .i64 0, .int .i64 0, .int .i64 0, .int .i64 0, .int .i64 0, .int .i64 0, .int .i64 0, .int .i64 0, .int .i64 0, .int .i64 0, .int .i64 0, .int .i64 0, .int .i64 0, .int .i64 0, .int .i64 0, .int .i64 0, .int .i64 0, .int .i64 0, .int .i64 0, .int .i64 0, .int .i64 0, .int .i64 0, .int .i64 0, .int .i64 0, .int .i64 0, .int .i64 0, .int .i64 0, .int .i64 0, .int .i64 0, .int .i64 0] := ⟨fun i => some (i * 1, 1), fun _ => by kernel_rfl, arrOffs_at 32 1⟩
instance : ZeroT Try.prog 168 [.int .i64 0, .int .i64 0, .int .i64 0, .int .i64 0, .int .i64 0, .int .i64 0, .int .i64 0, .int .i64 0, .int .i64 0, .int .i64 0, .int .i64 0, .int .i64 0, .int .i64 0, .int .i64 0, .int .i64 0, .int .i64 0, .int .i64 0, .int .i64 0, .int .i64 0, .int .i64 0, .int .i64 0, .int .i64 0, .int .i64 0, .int .i64 0, .int .i64 0, .int .i64 0, .int .i64 0, .int .i64 0, .int .i64 0, .int .i64 0, .int .i64 0, .int .i64 0] := ⟨_, show still Try.prog (zeroValue 168) = some (.agg (List.toArray [.int .i64 0, .int .i64 0, .int .i64 0, .int .i64 0, .int .i64 0, .int .i64 0, .int .i64 0, .int .i64 0, .int .i64 0, .int .i64 0, .int .i64 0, .int .i64 0, .int .i64 0, .int .i64 0, .int .i64 0, .int .i64 0, .int .i64 0, .int .i64 0, .int .i64 0, .int .i64 0, .int .i64 0, .int .i64 0, .int .i64 0, .int .i64 0, .int .i64 0, .int .i64 0, .int .i64 0, .int .i64 0, .int .i64 0, .int .i64 0, .int .i64 0, .int .i64 0])) by kernel_rfl, .agg _⟩
instance : Sc Try.prog 169 := ⟨_, Try.underlying169, rfl, by kernel_rfl⟩
instance : ZeroT Try.prog 169 [.nilFunc] := ⟨.nilFunc, by kernel_rfl, .one rfl⟩
instance : Sc Try.prog 170 := ⟨_, Try.underlying170, rfl, by kernel_rfl⟩
instance : ZeroT Try.prog 170 [.pointer none] := ⟨.pointer none, by kernel_rfl, .one rfl⟩
instance : Sc Try.prog 171 := ⟨_, Try.underlying171, rfl, by kernel_rfl⟩
instance : ZeroT Try.prog 171 [.nilFunc] := ⟨.nilFunc, by kernel_rfl, .one rfl⟩
instance : Sc Try.prog 172 := ⟨_, Try.underlying172, rfl, by kernel_rfl⟩
instance : ZeroT Try.prog 172 [.nilFunc] := ⟨.nilFunc, by kernel_rfl, .one rfl⟩
instance : Sc Try.prog 173 := ⟨_, Try.underlying173, rfl, by kernel_rfl⟩
instance : ZeroT Try.prog 173 [.int .u32 0] := ⟨.int .u32 0, by kernel_rfl, .one rfl⟩
instance : IntT Try.prog 173 .u32 := ⟨Try.underlying173⟩
instance : Sc Try.prog 175 := ⟨_, Try.underlying175, rfl, by kernel_rfl⟩
instance : ZeroT Try.prog 175 [.nilFunc] := ⟨.nilFunc, by kernel_rfl, .one rfl⟩
instance : Sc Try.prog 177 := ⟨_, Try.underlying177, rfl, by kernel_rfl⟩
instance : ZeroT Try.prog 177 [.nilFunc] := ⟨.nilFunc, by kernel_rfl, .one rfl⟩
instance : Ag Try.prog 178 2 := ⟨_, Try.underlying178, rfl, by kernel_rfl⟩
instance : ArrT Try.prog 178 2 3 1 := ⟨Try.underlying178, by kernel_rfl⟩
instance : OffsT Try.prog 178 (arrOffs 2 1) [.int .i64 0, .int .i64 0] := ⟨fun i => some (i * 1, 1), fun _ => by kernel_rfl, arrOffs_at 2 1⟩
instance : ZeroT Try.prog 178 [.int .i64 0, .int .i64 0] := ⟨_, show still Try.prog (zeroValue 178) = some (.agg (List.toArray [.int .i64 0, .int .i64 0])) by kernel_rfl, .agg _⟩
instance : Sc Try.prog 179 := ⟨_, Try.underlying179, rfl, by kernel_rfl⟩
instance : ZeroT Try.prog 179 [.slice none 0 0] := ⟨.slice none 0 0, by kernel_rfl, .one rfl⟩
instance : SliceT Try.prog 179 178 2 16 := ⟨Try.underlying179, by decide, by decide, .agg #[.int .i64 0, .int .i64 0], by kernel_rfl, by kernel_rfl⟩
instance : Ag Try.prog 180 12 := ⟨_, Try.underlying180, rfl, by kernel_rfl⟩
instance : ArrT Try.prog 180 6 178 2 := ⟨Try.underlying180, by kernel_rfl⟩
instance : OffsT Try.prog 180 (arrOffs 6 2) [.int .i64 0, .int .i64 0, .int .i64 0, .int .i64 0, .int .i64 0, .int .i64 0, .int .i64 0, .int .i64 0, .int .i64 0, .int .i64 0, .int .i64 0, .int .i64 0] := ⟨fun i => some (i * 2, 2), fun _ => by kernel_rfl, arrOffs_at 6 2⟩
instance : ZeroT Try.prog 180 [.int .i64 0, .int .i64 0, .int .i64 0, .int .i64 0, .int .i64 0, .int .i64 0, .int .i64 0, .int .i64 0, .int .i64 0, .int .i64 0, .int .i64 0, .int .i64 0] := ⟨_, show still Try.prog (zeroValue 180) = some (.agg (List.toArray [.int .i64 0, .int .i64 0, .int .i64 0, .int .i64 0, .int .i64 0, .int .i64 0, .int .i64 0, .int .i64 0, .int .i64 0, .int .i64 0, .int .i64 0, .int .i64 0])) by kernel_rfl, .agg _⟩
instance : Ag Try.prog 181 24 := ⟨_, Try.underlying181, rfl, by kernel_rfl⟩
instance : ArrT Try.prog 181 12 178 2 := ⟨Try.underlying181, by kernel_rfl⟩
instance : OffsT Try.prog 181 (arrOffs 12 2) [.int .i64 0, .int .i64 0, .int .i64 0, .int .i64 0, .int .i64 0, .int .i64 0, .int .i64 0, .int .i64 0, .int .i64 0, .int .i64 0, .int .i64 0, .int .i64 0, .int .i64 0, .int .i64 0, .int .i64 0, .int .i64 0, .int .i64 0, .int .i64 0, .int .i64 0, .int .i64 0, .int .i64 0, .int .i64 0, .int .i64 0, .int .i64 0] := ⟨fun i => some (i * 2, 2), fun _ => by kernel_rfl, arrOffs_at 12 2⟩
instance : ZeroT Try.prog 181 [.int .i64 0, .int .i64 0, .int .i64 0, .int .i64 0, .int .i64 0, .int .i64 0, .int .i64 0, .int .i64 0, .int .i64 0, .int .i64 0, .int .i64 0, .int .i64 0, .int .i64 0, .int .i64 0, .int .i64 0, .int .i64 0, .int .i64 0, .int .i64 0, .int .i64 0, .int .i64 0, .int .i64 0, .int .i64 0, .int .i64 0, .int .i64 0] := ⟨_, show still Try.prog (zeroValue 181) = some (.agg (List.toArray [.int .i64 0, .int .i64 0, .int .i64 0, .int .i64 0, .int .i64 0, .int .i64 0, .int .i64 0, .int .i64 0, .int .i64 0, .int .i64 0, .int .i64 0, .int .i64 0, .int .i64 0, .int .i64 0, .int .i64 0, .int .i64 0, .int .i64 0, .int .i64 0, .int .i64 0, .int .i64 0, .int .i64 0, .int .i64 0, .int .i64 0, .int .i64 0])) by kernel_rfl, .agg _⟩
instance : Sc Try.prog 182 := ⟨_, Try.underlying182, rfl, by kernel_rfl⟩
instance : ZeroT Try.prog 182 [.nilFunc] := ⟨.nilFunc, by kernel_rfl, .one rfl⟩
instance : Sc Try.prog 183 := ⟨_, Try.underlying183, rfl, by kernel_rfl⟩
instance : ZeroT Try.prog 183 [.nilFunc] := ⟨.nilFunc, by kernel_rfl, .one rfl⟩
instance : Sc Try.prog 184 := ⟨_, Try.underlying184, rfl, by kernel_rfl⟩
instance : ZeroT Try.prog 184 [.nilFunc] := ⟨.nilFunc, by kernel_rfl, .one rfl⟩
instance : Ag Try.prog 185 10 := ⟨_, Try.underlying185, rfl, by kernel_rfl⟩
instance : ArrT Try.prog 185 10 3 1 := ⟨Try.underlying185, by kernel_rfl⟩
instance : OffsT Try.prog 185 (arrOffs 10 1) [.int .i64 0, .int .i64 0, .int .i64 0, .int .i64 0, .int .i64 0, .int .i64 0, .int .i64 0, .int .i64 0, .int .i64 0, .int .i64 0] := ⟨fun i => some (i * 1, 1), fun _ => by kernel_rfl, arrOffs_at 10 1⟩
instance : ZeroT Try.prog 185 [.int .i64 0, .int .i64 0, .int .i64 0, .int .i64 0, .int .i64 0, .int .i64 0, .int .i64 0, .int .i64 0, .int .i64 0, .int .i64 0] := ⟨_, show still Try.prog (zeroValue 185) = some (.agg (List.toArray [.int .i64 0, .int .i64 0, .int .i64 0, .int .i64 0, .int .i64 0, .int .i64 0, .int .i64 0, .int .i64 0, .int .i64 0, .int .i64 0])) by kernel_rfl, .agg _⟩
instance : Sc Try.prog 186 := ⟨_, Try.underlying186, rfl, by kernel_rfl⟩
instance : ZeroT Try.prog 186 [.nilFunc] := ⟨.nilFunc, by kernel_rfl, .one rfl⟩
instance : Ag Try.prog 187 4 := ⟨_, Try.underlying187, rfl, by kernel_rfl⟩
instance : FieldAt Try.prog 187 0 0 := ⟨_, _, 0, Try.underlying187, rfl, rfl, by kernel_rfl⟩
instance : FieldAt Try.prog 187 1 1 := ⟨_, _, 0, Try.underlying187, rfl, rfl, by kernel_rfl⟩
instance : FieldAt Try.prog 187 2 2 := ⟨_, _, 0, Try.underlying187, rfl, rfl, by kernel_rfl⟩
instance : FieldAt Try.prog 187 3 3 := ⟨_, _, 0, Try.underlying187, rfl, rfl, by kernel_rfl⟩
instance : OffsT Try.prog 187 [(0, 1), (1, 1), (2, 1), (3, 1)] [.pointer none, .pointer none, .pointer none, .string .empty] := ⟨(([(0, 1), (1, 1), (2, 1), (3, 1)] : List (Nat × Nat)).toArray[·]?), fun _ => by kernel_rfl, fun i p h => by simpa using h⟩
instance : ZeroT Try.prog 187 [.pointer none, .pointer none, .pointer none, .string .empty] := ⟨_, show still Try.prog (zeroValue 187) = some (.agg (List.toArray [.pointer none, .pointer none, .pointer none, .string .empty])) by kernel_rfl, .agg _⟩
instance : Ag Try.prog 188 4 := ⟨_, Try.underlying188, rfl, by kernel_rfl⟩
instance : FieldAt Try.prog 188 0 0 := ⟨_, _, 0, Try.underlying188, rfl, rfl, by kernel_rfl⟩
instance : FieldAt Try.prog 188 1 1 := ⟨_, _, 0, Try.underlying188, rfl, rfl, by kernel_rfl⟩
instance : FieldAt Try.prog 188 2 2 := ⟨_, _, 0, Try.underlying188, rfl, rfl, by kernel_rfl⟩
instance : FieldAt Try.prog 188 3 3 := ⟨_, _, 0, Try.underlying188, rfl, rfl, by kernel_rfl⟩
instance : OffsT Try.prog 188 [(0, 1), (1, 1), (2, 1), (3, 1)] [.pointer none, .pointer none, .pointer none, .string .empty] := ⟨(([(0, 1), (1, 1), (2, 1), (3, 1)] : List (Nat × Nat)).toArray[·]?), fun _ => by kernel_rfl, fun i p h => by simpa using h⟩
instance : ZeroT Try.prog 188 [.pointer none, .pointer none, .pointer none, .string .empty] := ⟨_, show still Try.prog (zeroValue 188) = some (.agg (List.toArray [.pointer none, .pointer none, .pointer none, .string .empty])) by kernel_rfl, .agg _⟩
instance : Sc Try.prog 192 := ⟨_, Try.underlying192, rfl, by kernel_rfl⟩
instance : ZeroT Try.prog 192 [.nilFunc] := ⟨.nilFunc, by kernel_rfl, .one rfl⟩
instance : Sc Try.prog 193 := ⟨_, Try.underlying193, rfl, by kernel_rfl⟩
instance : ZeroT Try.prog 193 [.int .u8 0] := ⟨.int .u8 0, by kernel_rfl, .one rfl⟩
instance : IntT Try.prog 193 .u8 := ⟨Try.underlying193⟩
instance : Sc Try.prog 194 := ⟨_, Try.underlying194, rfl, by kernel_rfl⟩
instance : ZeroT Try.prog 194 [.int .u8 0] := ⟨.int .u8 0, by kernel_rfl, .one rfl⟩
instance : IntT Try.prog 194 .u8 := ⟨Try.underlying194⟩
instance : Sc Try.prog 195 := ⟨_, Try.underlying195, rfl, by kernel_rfl⟩
instance : ZeroT Try.prog 195 [.nilFunc] := ⟨.nilFunc, by kernel_rfl, .one rfl⟩
instance : Sc Try.prog 196 := ⟨_, Try.underlying196, rfl, by kernel_rfl⟩
instance : ZeroT Try.prog 196 [.int .i32 0] := ⟨.int .i32 0, by kernel_rfl, .one rfl⟩
instance : IntT Try.prog 196 .i32 := ⟨Try.underlying196⟩
instance : Sc Try.prog 197 := ⟨_, Try.underlying197, rfl, by kernel_rfl⟩
instance : ZeroT Try.prog 197 [.int .i32 0] := ⟨.int .i32 0, by kernel_rfl, .one rfl⟩
instance : IntT Try.prog 197 .i32 := ⟨Try.underlying197⟩
instance : Ag Try.prog 198 11 := ⟨_, Try.underlying198, rfl, by kernel_rfl⟩
instance : FieldAt Try.prog 198 0 0 := ⟨_, _, 0, Try.underlying198, rfl, rfl, by kernel_rfl⟩
instance : FieldAt Try.prog 198 1 1 := ⟨_, _, 0, Try.underlying198, rfl, rfl, by kernel_rfl⟩
instance : FieldAt Try.prog 198 2 2 := ⟨_, _, 0, Try.underlying198, rfl, rfl, by kernel_rfl⟩
instance : FieldAt Try.prog 198 3 3 := ⟨_, _, 0, Try.underlying198, rfl, rfl, by kernel_rfl⟩
instance : FieldAt Try.prog 198 4 4 := ⟨_, _, 0, Try.underlying198, rfl, rfl, by kernel_rfl⟩
instance : FieldAt Try.prog 198 5 5 := ⟨_, _, 0, Try.underlying198, rfl, rfl, by kernel_rfl⟩
instance : FieldAt Try.prog 198 6 6 := ⟨_, _, 0, Try.underlying198, rfl, rfl, by kernel_rfl⟩
instance : FieldAt Try.prog 198 7 7 := ⟨_, _, 0, Try.underlying198, rfl, rfl, by kernel_rfl⟩
instance : FieldAt Try.prog 198 8 8 := ⟨_, _, 0, Try.underlying198, rfl, rfl, by kernel_rfl⟩
instance : FieldAt Try.prog 198 9 9 := ⟨_, _, 0, Try.underlying198, rfl, rfl, by kernel_rfl⟩
instance : FieldAt Try.prog 198 10 10 := ⟨_, _, 0, Try.underlying198, rfl, rfl, by kernel_rfl⟩
instance : OffsT Try.prog 198 [(0, 1), (1, 1), (2, 1), (3, 1), (4, 1), (5, 1), (6, 1), (7, 1), (8, 1), (9, 1), (10, 1)] [.int .u64 0, .int .u64 0, .int .u32 0, .int .u8 0, .int .u8 0, .int .u8 0, .int .u8 0, .nilFunc, .pointer none, .int .i32 0, .int .i32 0] := ⟨(([(0, 1), (1, 1), (2, 1), (3, 1), (4, 1), (5, 1), (6, 1), (7, 1), (8, 1), (9, 1), (10, 1)] : List (Nat × Nat)).toArray[·]?), fun _ => by kernel_rfl, fun i p h => by simpa using h⟩
instance : ZeroT Try.prog 198 [.int .u64 0, .int .u64 0, .int .u32 0, .int .u8 0, .int .u8 0, .int .u8 0, .int .u8 0, .nilFunc, .pointer none, .int .i32 0, .int .i32 0] := ⟨_, show still Try.prog (zeroValue 198) = some (.agg (List.toArray [.int .u64 0, .int .u64 0, .int .u32 0, .int .u8 0, .int .u8 0, .int .u8 0, .int .u8 0, .nilFunc, .pointer none, .int .i32 0, .int .i32 0])) by kernel_rfl, .agg _⟩
instance : Ag Try.prog 199 11 := ⟨_, Try.underlying199, rfl, by kernel_rfl⟩
instance : FieldAt Try.prog 199 0 0 := ⟨_, _, 0, Try.underlying199, rfl, rfl, by kernel_rfl⟩
instance : FieldAt Try.prog 199 1 1 := ⟨_, _, 0, Try.underlying199, rfl, rfl, by kernel_rfl⟩
instance : FieldAt Try.prog 199 2 2 := ⟨_, _, 0, Try.underlying199, rfl, rfl, by kernel_rfl⟩
instance : FieldAt Try.prog 199 3 3 := ⟨_, _, 0, Try.underlying199, rfl, rfl, by kernel_rfl⟩
instance : FieldAt Try.prog 199 4 4 := ⟨_, _, 0, Try.underlying199, rfl, rfl, by kernel_rfl⟩
instance : FieldAt Try.prog 199 5 5 := ⟨_, _, 0, Try.underlying199, rfl, rfl, by kernel_rfl⟩
instance : FieldAt Try.prog 199 6 6 := ⟨_, _, 0, Try.underlying199, rfl, rfl, by kernel_rfl⟩
instance : FieldAt Try.prog 199 7 7 := ⟨_, _, 0, Try.underlying199, rfl, rfl, by kernel_rfl⟩
instance : FieldAt Try.prog 199 8 8 := ⟨_, _, 0, Try.underlying199, rfl, rfl, by kernel_rfl⟩
instance : FieldAt Try.prog 199 9 9 := ⟨_, _, 0, Try.underlying199, rfl, rfl, by kernel_rfl⟩
instance : FieldAt Try.prog 199 10 10 := ⟨_, _, 0, Try.underlying199, rfl, rfl, by kernel_rfl⟩
instance : OffsT Try.prog 199 [(0, 1), (1, 1), (2, 1), (3, 1), (4, 1), (5, 1), (6, 1), (7, 1), (8, 1), (9, 1), (10, 1)] [.int .u64 0, .int .u64 0, .int .u32 0, .int .u8 0, .int .u8 0, .int .u8 0, .int .u8 0, .nilFunc, .pointer none, .int .i32 0, .int .i32 0] := ⟨(([(0, 1), (1, 1), (2, 1), (3, 1), (4, 1), (5, 1), (6, 1), (7, 1), (8, 1), (9, 1), (10, 1)] : List (Nat × Nat)).toArray[·]?), fun _ => by kernel_rfl, fun i p h => by simpa using h⟩
instance : ZeroT Try.prog 199 [.int .u64 0, .int .u64 0, .int .u32 0, .int .u8 0, .int .u8 0, .int .u8 0, .int .u8 0, .nilFunc, .pointer none, .int .i32 0, .int .i32 0] := ⟨_, show still Try.prog (zeroValue 199) = some (.agg (List.toArray [.int .u64 0, .int .u64 0, .int .u32 0, .int .u8 0, .int .u8 0, .int .u8 0, .int .u8 0, .nilFunc, .pointer none, .int .i32 0, .int .i32 0])) by kernel_rfl, .agg _⟩
instance : Sc Try.prog 200 := ⟨_, Try.underlying200, rfl, by kernel_rfl⟩
-- type 200: ('unsafePointer',)
end Go.Proofs.Ytpgmdjdnmipmbaa
