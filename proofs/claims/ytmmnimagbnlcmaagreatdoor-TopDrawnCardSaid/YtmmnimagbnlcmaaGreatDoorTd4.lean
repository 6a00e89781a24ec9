/- Texts of this claim, merged: Sxp CardM Shelf CardU SxC Pen Cho Slices Sorts Find Find3 Bet. -/
import Derived.Test.YtmmnimagbnlcmaaGreatDoorTd3
import Derived.WalkKit
import Derived.WalkSpells
import Derived.WalkLawsBesides
import Derived.Handy
import Derived.Lib.Hide
import Derived.Laws.BitsAllLaws
import Derived.Deep.MidRow
import Derived.Deep.WholeRow
import Derived.BigQuiet
import Derived.Laws.CopyOwn
import Derived.Deep.QuietTactic
import Derived.Laws.AppendOwnNone
import Derived.Laws.MakeOwn
import Derived.Laws.IdiomStrings
import Derived.OrdersHeld
import Derived.Lib.SliceRun
import Derived.ChangeKeysEq
import Derived.Laws.CopyRow
import Derived.Test.YtmmnimagbnlcmaaGreatDoorRows
import Derived.ProofKit
import Derived.OpenShut
import Derived.JoinedCond
import Derived.SliceStrings
import Derived.Test.YtmmnimagbnlcmaaGreatDoorCards
import Derived.Test.YtmmnimagbnlcmaaGreatDoorTie
import Derived.Deep.DeepHandedRow
import Derived.Shelf.Vars
import Derived.Shelf.Strings.Builder1
import Derived.Shelf.Strings.Builder2
import Derived.Shelf.Strings.OnBuilder
import Derived.Shelf.Strings.Trim
import Derived.Shelf.Small.Utf8
import Derived.Shelf.Small.Strs
import Derived.Shelf.Strings.BuilderF
import Derived.Shelf.Strconv.Itoa0
import Derived.Shelf.Strconv.Itoa1
import Derived.Shelf.LaysM
import Derived.Shelf.Strconv.Itoa2
import Derived.Shelf.Strconv.Itoa3
import Derived.Shelf.Strings.Search1
import Derived.Shelf.Strings.Search2
import Derived.Shelf.Strings.Search3
import Derived.Shelf.Strings.Count
import Derived.Shelf.Strings.Shaped
import Derived.Shelf.Strings.LastIndex
import Derived.Shelf.Strings.Prefix
import Derived.Shelf.Strings.Split
import Derived.Shelf.Strings.Replace
import Derived.Shelf.Strings.SplitShaped
import Derived.Shelf.Strings.Runes
import Derived.Shelf.Strings.AsciiSet
import Derived.Shelf.Bits.Mul64
import Derived.Shelf.Strings.Repeat
import Derived.Shelf.Unicode.DecodeSlow
import Derived.Shelf.Unicode.DecodeAny
import Derived.Shelf.Unicode.ValidAny
import Derived.Test.YtmmnimagbnlcmaaGreatDoorProg
import Derived.Lib.LaidU8
import Derived.Lib.AppendStr
import Derived.ArgAppend
import Derived.Lib.Replace
namespace Go.Proofs.YtmmnimagbnlcmaaGreatDoor
open Go Go.RowKit Go.Fw Go.Sx
set_option maxRecDepth 100000
section
instance :Wide Tryz.prog:=⟨by kernel_rfl⟩
instance :Sc Tryz.prog 3:=⟨_,Tryz.underlying3,rfl,by kernel_rfl⟩
instance :IntT Tryz.prog 3 .i64:=⟨Tryz.underlying3⟩
instance :Sc Tryz.prog 4:=⟨_,Tryz.underlying4,rfl,by kernel_rfl⟩
instance :Sc Tryz.prog 5:=⟨_,Tryz.underlying5,rfl,by kernel_rfl⟩
instance :IntT Tryz.prog 5 .u8:=⟨Tryz.underlying5⟩
instance :Sc Tryz.prog 9:=⟨_,Tryz.underlying9,rfl,by kernel_rfl⟩
instance :StrT Tryz.prog 9:=⟨Tryz.underlying9⟩
instance :IntT Tryz.prog 21 .i32:=⟨Tryz.underlying21⟩
instance :Ag Tryz.prog 24 5:=⟨_,Tryz.underlying24,rfl,by kernel_rfl⟩
instance :FieldAt Tryz.prog 24 0 0:=⟨_,_,0,Tryz.underlying24,rfl,rfl,by kernel_rfl⟩
instance :FieldAt Tryz.prog 24 1 1:=⟨_,_,0,Tryz.underlying24,rfl,rfl,by kernel_rfl⟩
instance :FieldAt Tryz.prog 24 2 2:=⟨_,_,0,Tryz.underlying24,rfl,rfl,by kernel_rfl⟩
instance :FieldAt Tryz.prog 24 3 3:=⟨_,_,0,Tryz.underlying24,rfl,rfl,by kernel_rfl⟩
instance :FieldAt Tryz.prog 24 4 4:=⟨_,_,0,Tryz.underlying24,rfl,rfl,by kernel_rfl⟩
instance :OffsT Tryz.prog 24 [(0,1),(1,1),(2,1),(3,1),(4,1)] [.int .i64 0,.int .i64 0,.int .i64 0,.string .empty,.bool false]:=⟨(([(0,1),(1,1),(2,1),(3,1),(4,1)]:List (Nat×Nat)).toArray[·]?),fun _=>by kernel_rfl,fun i p h=>by simpa using h⟩
instance :ZeroT Tryz.prog 24 [.int .i64 0,.int .i64 0,.int .i64 0,.string .empty,.bool false]:=⟨_,show still Tryz.prog (zeroValue 24)=some (.agg (List.toArray [.int .i64 0,.int .i64 0,.int .i64 0,.string .empty,.bool false])) by kernel_rfl,.agg _⟩
instance :Ag Tryz.prog 26 5:=⟨_,Tryz.underlying26,rfl,by kernel_rfl⟩
instance :FieldAt Tryz.prog 26 0 0:=⟨_,_,0,Tryz.underlying26,rfl,rfl,by kernel_rfl⟩
instance :FieldAt Tryz.prog 26 1 1:=⟨_,_,0,Tryz.underlying26,rfl,rfl,by kernel_rfl⟩
instance :FieldAt Tryz.prog 26 2 2:=⟨_,_,0,Tryz.underlying26,rfl,rfl,by kernel_rfl⟩
instance :FieldAt Tryz.prog 26 3 3:=⟨_,_,0,Tryz.underlying26,rfl,rfl,by kernel_rfl⟩
instance :FieldAt Tryz.prog 26 4 4:=⟨_,_,0,Tryz.underlying26,rfl,rfl,by kernel_rfl⟩
instance :OffsT Tryz.prog 26 [(0,1),(1,1),(2,1),(3,1),(4,1)] [.int .i64 0,.int .i64 0,.string .empty,.string .empty,.string .empty]:=⟨(([(0,1),(1,1),(2,1),(3,1),(4,1)]:List (Nat×Nat)).toArray[·]?),fun _=>by kernel_rfl,fun i p h=>by simpa using h⟩
instance :ZeroT Tryz.prog 26 [.int .i64 0,.int .i64 0,.string .empty,.string .empty,.string .empty]:=⟨_,show still Tryz.prog (zeroValue 26)=some (.agg (List.toArray [.int .i64 0,.int .i64 0,.string .empty,.string .empty,.string .empty])) by kernel_rfl,.agg _⟩
instance :Sc Tryz.prog 27:=⟨_,Tryz.underlying27,rfl,by kernel_rfl⟩
instance :SliceT Tryz.prog 27 97 4 32:=⟨Tryz.underlying27,by decide,by decide,.agg #[.int .i64 0,.int .i64 0,.int .i64 0,.int .i64 0],by kernel_rfl,by kernel_rfl⟩
instance :Ag Tryz.prog 29 3:=⟨_,Tryz.underlying29,rfl,by kernel_rfl⟩
instance :FieldAt Tryz.prog 29 0 0:=⟨_,_,0,Tryz.underlying29,rfl,rfl,by kernel_rfl⟩
instance :FieldAt Tryz.prog 29 1 1:=⟨_,_,0,Tryz.underlying29,rfl,rfl,by kernel_rfl⟩
instance :FieldAt Tryz.prog 29 2 2:=⟨_,_,0,Tryz.underlying29,rfl,rfl,by kernel_rfl⟩
instance :OffsT Tryz.prog 29 [(0,1),(1,1),(2,1)] [.int .i64 0,.int .i64 0,.slice none 0 0]:=⟨(([(0,1),(1,1),(2,1)]:List (Nat×Nat)).toArray[·]?),fun _=>by kernel_rfl,fun i p h=>by simpa using h⟩
instance :ZeroT Tryz.prog 29 [.int .i64 0,.int .i64 0,.slice none 0 0]:=⟨_,show still Tryz.prog (zeroValue 29)=some (.agg (List.toArray [.int .i64 0,.int .i64 0,.slice none 0 0])) by kernel_rfl,.agg _⟩
instance :Ag Tryz.prog 31 3:=⟨_,Tryz.underlying31,rfl,by kernel_rfl⟩
instance :FieldAt Tryz.prog 31 0 0:=⟨_,_,0,Tryz.underlying31,rfl,rfl,by kernel_rfl⟩
instance :FieldAt Tryz.prog 31 1 1:=⟨_,_,0,Tryz.underlying31,rfl,rfl,by kernel_rfl⟩
instance :FieldAt Tryz.prog 31 2 2:=⟨_,_,0,Tryz.underlying31,rfl,rfl,by kernel_rfl⟩
instance :OffsT Tryz.prog 31 [(0,1),(1,1),(2,1)] [.int .i64 0,.int .i64 0,.int .i64 0]:=⟨(([(0,1),(1,1),(2,1)]:List (Nat×Nat)).toArray[·]?),fun _=>by kernel_rfl,fun i p h=>by simpa using h⟩
instance :ZeroT Tryz.prog 31 [.int .i64 0,.int .i64 0,.int .i64 0]:=⟨_,show still Tryz.prog (zeroValue 31)=some (.agg (List.toArray [.int .i64 0,.int .i64 0,.int .i64 0])) by kernel_rfl,.agg _⟩
instance :Sc Tryz.prog 32:=⟨_,Tryz.underlying32,rfl,by kernel_rfl⟩
instance :Ag Tryz.prog 33 4:=⟨_,Tryz.underlying33,rfl,by kernel_rfl⟩
instance :ArrT Tryz.prog 33 4 32 1:=⟨Tryz.underlying33,by kernel_rfl⟩
instance :Ag Tryz.prog 35 4:=⟨_,Tryz.underlying35,rfl,by kernel_rfl⟩
instance :FieldAt Tryz.prog 35 0 0:=⟨_,_,3,Tryz.underlying35,rfl,rfl,by kernel_rfl⟩
instance :ZeroT Tryz.prog 35 [.int .u64 0,.int .u64 0,.int .u64 0,.int .u64 0]:=⟨_,show still Tryz.prog (zeroValue 35)=some (.agg (List.toArray [.int .u64 0,.int .u64 0,.int .u64 0,.int .u64 0])) by kernel_rfl,.agg _⟩
instance :Ag Tryz.prog 36 2:=⟨_,Tryz.underlying36,rfl,by kernel_rfl⟩
instance :ArrT Tryz.prog 36 2 3 1:=⟨Tryz.underlying36,by kernel_rfl⟩
instance :OffsT Tryz.prog 36 (AI6 2 1) [.int .i64 0,.int .i64 0]:=⟨fun i=>some (i * 1,1),fun _=>by kernel_rfl,AK9 2 1⟩
instance :ZeroT Tryz.prog 36 [.int .i64 0,.int .i64 0]:=⟨_,show still Tryz.prog (zeroValue 36)=some (.agg (List.toArray [.int .i64 0,.int .i64 0])) by kernel_rfl,.agg _⟩
instance :FieldAt Tryz.prog 38 0 0:=⟨_,_,0,Tryz.underlying38,rfl,rfl,by kernel_rfl⟩
instance :FieldAt Tryz.prog 38 1 1:=⟨_,_,0,Tryz.underlying38,rfl,rfl,by kernel_rfl⟩
instance :FieldAt Tryz.prog 38 2 2:=⟨_,_,2,Tryz.underlying38,rfl,rfl,by kernel_rfl⟩
instance :FieldAt Tryz.prog 38 4 6:=⟨_,_,1,Tryz.underlying38,rfl,rfl,by kernel_rfl⟩
instance :FieldAt Tryz.prog 38 5 8:=⟨_,_,0,Tryz.underlying38,rfl,rfl,by kernel_rfl⟩
instance :OffsT Tryz.prog 38 [(0,1),(1,1),(2,3),(5,1),(6,2),(8,1)] [.int .i64 0,.int .i64 0,.int .i64 0,.int .i64 0,.int .i64 0,.bool false,.int .i64 0,.int .i64 0,.int .i64 0]:=⟨(([(0,1),(1,1),(2,3),(5,1),(6,2),(8,1)]:List (Nat×Nat)).toArray[·]?),fun _=>by kernel_rfl,fun i p h=>by simpa using h⟩
instance :Sc Tryz.prog 39:=⟨_,Tryz.underlying39,rfl,by kernel_rfl⟩
instance :SliceT Tryz.prog 39 119 1 24:=⟨Tryz.underlying39,by decide,by decide,.agg #[.slice none 0 0],by kernel_rfl,by kernel_rfl⟩
instance :Ag Tryz.prog 41 33:=⟨_,Tryz.underlying41,rfl,by kernel_rfl⟩
instance :FieldAt Tryz.prog 41 0 0:=⟨_,_,2,Tryz.underlying41,rfl,rfl,by kernel_rfl⟩
instance :FieldAt Tryz.prog 41 1 3:=⟨_,_,0,Tryz.underlying41,rfl,rfl,by kernel_rfl⟩
instance :FieldAt Tryz.prog 41 2 4:=⟨_,_,0,Tryz.underlying41,rfl,rfl,by kernel_rfl⟩
instance :FieldAt Tryz.prog 41 3 5:=⟨_,_,0,Tryz.underlying41,rfl,rfl,by kernel_rfl⟩
instance :FieldAt Tryz.prog 41 4 6:=⟨_,_,0,Tryz.underlying41,rfl,rfl,by kernel_rfl⟩
instance :FieldAt Tryz.prog 41 5 7:=⟨_,_,0,Tryz.underlying41,rfl,rfl,by kernel_rfl⟩
instance :FieldAt Tryz.prog 41 6 8:=⟨_,_,2,Tryz.underlying41,rfl,rfl,by kernel_rfl⟩
instance :FieldAt Tryz.prog 41 7 11:=⟨_,_,0,Tryz.underlying41,rfl,rfl,by kernel_rfl⟩
instance :FieldAt Tryz.prog 41 9 16:=⟨_,_,1,Tryz.underlying41,rfl,rfl,by kernel_rfl⟩
instance :FieldAt Tryz.prog 41 10 18:=⟨_,_,0,Tryz.underlying41,rfl,rfl,by kernel_rfl⟩
instance :FieldAt Tryz.prog 41 11 19:=⟨_,_,8,Tryz.underlying41,rfl,rfl,by kernel_rfl⟩
instance :FieldAt Tryz.prog 41 12 28:=⟨_,_,2,Tryz.underlying41,rfl,rfl,by kernel_rfl⟩
instance :FieldAt Tryz.prog 41 13 31:=⟨_,_,0,Tryz.underlying41,rfl,rfl,by kernel_rfl⟩
instance :FieldAt Tryz.prog 41 14 32:=⟨_,_,0,Tryz.underlying41,rfl,rfl,by kernel_rfl⟩
instance :OffsT Tryz.prog 41 [(0,3),(3,1),(4,1),(5,1),(6,1),(7,1),(8,3),(11,1),(12,4),(16,2),(18,1),(19,9),(28,3),(31,1),(32,1)] (.int .i64 0:: .int .i64 0:: .slice none 0 0:: .int .i64 0:: .int .i64 0:: .bool false:: .int .i64 0:: .int .i64 0:: .int .i64 0:: .int .i64 0:: .int .i64 0:: .int .i64 0:: .int .u64 0:: .int .u64 0:: .int .u64 0:: .int .u64 0:: .int .i64 0:: .int .i64 0:: .int .i64 0:: .int .i64 0:: .int .i64 0:: .int .i64 0:: .int .i64 0:: .int .i64 0:: .bool false:: .int .i64 0:: .int .i64 0:: .int .i64 0:: .int .i64 0:: .int .i64 0:: .slice none 0 0:: .string .empty:: .slice none 0 0::[]):=⟨(([(0,3),(3,1),(4,1),(5,1),(6,1),(7,1),(8,3),(11,1),(12,4),(16,2),(18,1),(19,9),(28,3),(31,1),(32,1)]:List (Nat×Nat)).toArray[·]?),fun _=>by kernel_rfl,fun i p h=>by simpa using h⟩
instance :ZeroT Tryz.prog 41 (.int .i64 0:: .int .i64 0:: .slice none 0 0:: .int .i64 0:: .int .i64 0:: .bool false:: .int .i64 0:: .int .i64 0:: .int .i64 0:: .int .i64 0:: .int .i64 0:: .int .i64 0:: .int .u64 0:: .int .u64 0:: .int .u64 0:: .int .u64 0:: .int .i64 0:: .int .i64 0:: .int .i64 0:: .int .i64 0:: .int .i64 0:: .int .i64 0:: .int .i64 0:: .int .i64 0:: .bool false:: .int .i64 0:: .int .i64 0:: .int .i64 0:: .int .i64 0:: .int .i64 0:: .slice none 0 0:: .string .empty:: .slice none 0 0::[]):=⟨_,show still Tryz.prog (zeroValue 41)=some (.agg (List.toArray (.int .i64 0:: .int .i64 0:: .slice none 0 0:: .int .i64 0:: .int .i64 0:: .bool false:: .int .i64 0:: .int .i64 0:: .int .i64 0:: .int .i64 0:: .int .i64 0:: .int .i64 0:: .int .u64 0:: .int .u64 0:: .int .u64 0:: .int .u64 0:: .int .i64 0:: .int .i64 0:: .int .i64 0:: .int .i64 0:: .int .i64 0:: .int .i64 0:: .int .i64 0:: .int .i64 0:: .bool false:: .int .i64 0:: .int .i64 0:: .int .i64 0:: .int .i64 0:: .int .i64 0:: .slice none 0 0:: .string .empty:: .slice none 0 0::[]))) by kernel_rfl,.agg _⟩
instance :Ag Tryz.prog 42 256:=⟨_,Tryz.underlying42,rfl,by kernel_rfl⟩
instance :ArrT Tryz.prog 42 256 5 1:=⟨Tryz.underlying42,by kernel_rfl⟩
instance :Ag Tryz.prog 44 520:=⟨_,Tryz.underlying44,rfl,by kernel_rfl⟩
instance :FieldAt Tryz.prog 44 0 0:=⟨_,_,255,Tryz.underlying44,rfl,rfl,by kernel_rfl⟩
instance :FieldAt Tryz.prog 44 1 256:=⟨_,_,255,Tryz.underlying44,rfl,rfl,by kernel_rfl⟩
instance :Sc Tryz.prog 45:=⟨_,Tryz.underlying45,rfl,by kernel_rfl⟩
instance :SliceT Tryz.prog 45 9 1 16:=⟨Tryz.underlying45,by decide,by decide,.string .empty,by kernel_rfl,by kernel_rfl⟩
instance :Ag Tryz.prog 47 2:=⟨_,Tryz.underlying47,rfl,by kernel_rfl⟩
instance :FieldAt Tryz.prog 47 0 0:=⟨_,_,0,Tryz.underlying47,rfl,rfl,by kernel_rfl⟩
instance :FieldAt Tryz.prog 47 1 1:=⟨_,_,0,Tryz.underlying47,rfl,rfl,by kernel_rfl⟩
instance :OffsT Tryz.prog 47 [(0,1),(1,1)] [.slice none 0 0,.int .i64 0]:=⟨(([(0,1),(1,1)]:List (Nat×Nat)).toArray[·]?),fun _=>by kernel_rfl,fun i p h=>by simpa using h⟩
instance :Sc Tryz.prog 48:=⟨_,Tryz.underlying48,rfl,by kernel_rfl⟩
instance :SliceT Tryz.prog 48 142 4 40:=⟨Tryz.underlying48,by decide,by decide,.agg #[.string .empty,.string .empty,.bool false,.bool false],by kernel_rfl,by kernel_rfl⟩
instance :Ag Tryz.prog 49 19:=⟨_,Tryz.underlying49,rfl,by kernel_rfl⟩
instance :ArrT Tryz.prog 49 19 5 1:=⟨Tryz.underlying49,by kernel_rfl⟩
instance :Ag Tryz.prog 51 38:=⟨_,Tryz.underlying51,rfl,by kernel_rfl⟩
instance :FieldAt Tryz.prog 51 0 0:=⟨_,_,18,Tryz.underlying51,rfl,rfl,by kernel_rfl⟩
instance :FieldAt Tryz.prog 51 1 19:=⟨_,_,18,Tryz.underlying51,rfl,rfl,by kernel_rfl⟩
instance :Ag Tryz.prog 54 2:=⟨_,Tryz.underlying54,rfl,by kernel_rfl⟩
instance :FieldAt Tryz.prog 54 0 0:=⟨_,_,0,Tryz.underlying54,rfl,rfl,by kernel_rfl⟩
instance :Ag Tryz.prog 56 613:=⟨_,Tryz.underlying56,rfl,by kernel_rfl⟩
instance :FieldAt Tryz.prog 56 0 0:=⟨_,_,4,Tryz.underlying56,rfl,rfl,by kernel_rfl⟩
instance :FieldAt Tryz.prog 56 1 5:=⟨_,_,0,Tryz.underlying56,rfl,rfl,by kernel_rfl⟩
instance :FieldAt Tryz.prog 56 2 6:=⟨_,_,0,Tryz.underlying56,rfl,rfl,by kernel_rfl⟩
instance :FieldAt Tryz.prog 56 3 7:=⟨_,_,4,Tryz.underlying56,rfl,rfl,by kernel_rfl⟩
instance :FieldAt Tryz.prog 56 4 12:=⟨_,_,32,Tryz.underlying56,rfl,rfl,by kernel_rfl⟩
instance :FieldAt Tryz.prog 56 5 45:=⟨_,_,519,Tryz.underlying56,rfl,rfl,by kernel_rfl⟩
instance :FieldAt Tryz.prog 56 6 565:=⟨_,_,1,Tryz.underlying56,rfl,rfl,by kernel_rfl⟩
instance :FieldAt Tryz.prog 56 7 567:=⟨_,_,0,Tryz.underlying56,rfl,rfl,by kernel_rfl⟩
instance :FieldAt Tryz.prog 56 8 568:=⟨_,_,37,Tryz.underlying56,rfl,rfl,by kernel_rfl⟩
instance :FieldAt Tryz.prog 56 10 610:=⟨_,_,1,Tryz.underlying56,rfl,rfl,by kernel_rfl⟩
instance :FieldAt Tryz.prog 56 11 612:=⟨_,_,0,Tryz.underlying56,rfl,rfl,by kernel_rfl⟩
instance :Sc Tryz.prog 57:=⟨_,Tryz.underlying57,rfl,by kernel_rfl⟩
instance :Ag Tryz.prog 61 8:=⟨_,Tryz.underlying61,rfl,by kernel_rfl⟩
instance :FieldAt Tryz.prog 61 0 0:=⟨_,_,3,Tryz.underlying61,rfl,rfl,by kernel_rfl⟩
instance :FieldAt Tryz.prog 61 1 4:=⟨_,_,3,Tryz.underlying61,rfl,rfl,by kernel_rfl⟩
instance :OffsT Tryz.prog 61 [(0,4),(4,4)] [.int .u64 0,.int .u64 0,.int .u64 0,.int .u64 0,.int .u64 0,.int .u64 0,.int .u64 0,.int .u64 0]:=⟨(([(0,4),(4,4)]:List (Nat×Nat)).toArray[·]?),fun _=>by kernel_rfl,fun i p h=>by simpa using h⟩
instance :Ag Tryz.prog 68 3:=⟨_,Tryz.underlying68,rfl,by kernel_rfl⟩
instance :FieldAt Tryz.prog 68 0 0:=⟨_,_,0,Tryz.underlying68,rfl,rfl,by kernel_rfl⟩
instance :FieldAt Tryz.prog 68 1 1:=⟨_,_,0,Tryz.underlying68,rfl,rfl,by kernel_rfl⟩
instance :FieldAt Tryz.prog 68 2 2:=⟨_,_,0,Tryz.underlying68,rfl,rfl,by kernel_rfl⟩
instance :OffsT Tryz.prog 68 [(0,1),(1,1),(2,1)] [.int .i64 0,.int .i64 0,.int .i64 0]:=⟨(([(0,1),(1,1),(2,1)]:List (Nat×Nat)).toArray[·]?),fun _=>by kernel_rfl,fun i p h=>by simpa using h⟩
instance :Sc Tryz.prog 74:=⟨_,Tryz.underlying74,rfl,by kernel_rfl⟩
instance :SliceT Tryz.prog 74 3 1 8:=⟨Tryz.underlying74,by decide,by decide,.int .i64 0,by kernel_rfl,by kernel_rfl⟩
instance :Ag Tryz.prog 76 16:=⟨_,Tryz.underlying76,rfl,by kernel_rfl⟩
instance :FieldAt Tryz.prog 76 0 0:=⟨_,_,0,Tryz.underlying76,rfl,rfl,by kernel_rfl⟩
instance :FieldAt Tryz.prog 76 1 1:=⟨_,_,0,Tryz.underlying76,rfl,rfl,by kernel_rfl⟩
instance :FieldAt Tryz.prog 76 2 2:=⟨_,_,2,Tryz.underlying76,rfl,rfl,by kernel_rfl⟩
instance :OffsT Tryz.prog 76 [(0,1),(1,1),(2,3),(5,5),(10,1),(11,1),(12,1),(13,1),(14,1),(15,1)] [.int .i64 0,.string .empty,.int .i64 0,.int .i64 0,.int .i64 0,.int .i64 0,.int .i64 0,.int .i64 0,.int .i64 0,.bool false,.slice none 0 0,.int .i64 0,.int .i64 0,.bool false,.int .i64 0,.bool false]:=⟨(([(0,1),(1,1),(2,3),(5,5),(10,1),(11,1),(12,1),(13,1),(14,1),(15,1)]:List (Nat×Nat)).toArray[·]?),fun _=>by kernel_rfl,fun i p h=>by simpa using h⟩
instance :ZeroT Tryz.prog 76 [.int .i64 0,.string .empty,.int .i64 0,.int .i64 0,.int .i64 0,.int .i64 0,.int .i64 0,.int .i64 0,.int .i64 0,.bool false,.slice none 0 0,.int .i64 0,.int .i64 0,.bool false,.int .i64 0,.bool false]:=⟨_,show still Tryz.prog (zeroValue 76)=some (.agg (List.toArray [.int .i64 0,.string .empty,.int .i64 0,.int .i64 0,.int .i64 0,.int .i64 0,.int .i64 0,.int .i64 0,.int .i64 0,.bool false,.slice none 0 0,.int .i64 0,.int .i64 0,.bool false,.int .i64 0,.bool false])) by kernel_rfl,.agg _⟩
instance :Ag Tryz.prog 97 4:=⟨_,Tryz.underlying97,rfl,by kernel_rfl⟩
instance :FieldAt Tryz.prog 97 0 0:=⟨_,_,0,Tryz.underlying97,rfl,rfl,by kernel_rfl⟩
instance :FieldAt Tryz.prog 97 1 1:=⟨_,_,2,Tryz.underlying97,rfl,rfl,by kernel_rfl⟩
instance :OffsT Tryz.prog 97 [(0,1),(1,3)] [.int .i64 0,.int .i64 0,.int .i64 0,.int .i64 0]:=⟨(([(0,1),(1,3)]:List (Nat×Nat)).toArray[·]?),fun _=>by kernel_rfl,fun i p h=>by simpa using h⟩
instance :ZeroT Tryz.prog 97 [.int .i64 0,.int .i64 0,.int .i64 0,.int .i64 0]:=⟨_,show still Tryz.prog (zeroValue 97)=some (.agg (List.toArray [.int .i64 0,.int .i64 0,.int .i64 0,.int .i64 0])) by kernel_rfl,.agg _⟩
instance :Sc Tryz.prog 106:=⟨_,Tryz.underlying106,rfl,by kernel_rfl⟩
instance :SliceT Tryz.prog 106 5 1 1:=⟨Tryz.underlying106,by decide,by decide,.int .u8 0,by kernel_rfl,by kernel_rfl⟩
instance :Sc Tryz.prog 112:=⟨_,Tryz.underlying112,rfl,by kernel_rfl⟩
instance :SliceT Tryz.prog 112 160 6 80:=⟨Tryz.underlying112,by decide,by decide,.agg #[.int .i64 0,.int .i64 0,.int .i64 0,.string .empty,.slice none 0 0,.string .empty],by kernel_rfl,by kernel_rfl⟩
instance :Ag Tryz.prog 119 1:=⟨_,Tryz.underlying119,rfl,by kernel_rfl⟩
instance :FieldAt Tryz.prog 119 0 0:=⟨_,_,0,Tryz.underlying119,rfl,rfl,by kernel_rfl⟩
instance :OffsT Tryz.prog 119 [(0,1)] [.slice none 0 0]:=⟨(([(0,1)]:List (Nat×Nat)).toArray[·]?),fun _=>by kernel_rfl,fun i p h=>by simpa using h⟩
instance :ZeroT Tryz.prog 119 [.slice none 0 0]:=⟨_,show still Tryz.prog (zeroValue 119)=some (.agg (List.toArray [.slice none 0 0])) by kernel_rfl,.agg _⟩
instance :FieldAt Tryz.prog 125 0 0:=⟨_,_,0,Tryz.underlying125,rfl,rfl,by kernel_rfl⟩
instance :FieldAt Tryz.prog 125 1 1:=⟨_,_,2,Tryz.underlying125,rfl,rfl,by kernel_rfl⟩
instance :OffsT Tryz.prog 125 [(0,1),(1,3)] [.slice none 0 0,.int .i64 0,.int .i64 0,.int .i64 0]:=⟨(([(0,1),(1,3)]:List (Nat×Nat)).toArray[·]?),fun _=>by kernel_rfl,fun i p h=>by simpa using h⟩
instance :FieldAt Tryz.prog 135 0 0:=⟨_,_,612,Tryz.underlying135,rfl,rfl,by kernel_rfl⟩
instance :FieldAt Tryz.prog 135 1 613:=⟨_,_,0,Tryz.underlying135,rfl,rfl,by kernel_rfl⟩
instance :Ag Tryz.prog 142 4:=⟨_,Tryz.underlying142,rfl,by kernel_rfl⟩
instance :FieldAt Tryz.prog 142 0 0:=⟨_,_,0,Tryz.underlying142,rfl,rfl,by kernel_rfl⟩
instance :FieldAt Tryz.prog 142 1 1:=⟨_,_,0,Tryz.underlying142,rfl,rfl,by kernel_rfl⟩
instance :FieldAt Tryz.prog 142 2 2:=⟨_,_,0,Tryz.underlying142,rfl,rfl,by kernel_rfl⟩
instance :FieldAt Tryz.prog 142 3 3:=⟨_,_,0,Tryz.underlying142,rfl,rfl,by kernel_rfl⟩
instance :ZeroT Tryz.prog 142 [.string .empty,.string .empty,.bool false,.bool false]:=⟨_,show still Tryz.prog (zeroValue 142)=some (.agg (List.toArray [.string .empty,.string .empty,.bool false,.bool false])) by kernel_rfl,.agg _⟩
instance :FieldAt Tryz.prog 152 0 0:=⟨_,_,4,Tryz.underlying152,rfl,rfl,by kernel_rfl⟩
instance :FieldAt Tryz.prog 152 1 5:=⟨_,_,0,Tryz.underlying152,rfl,rfl,by kernel_rfl⟩
instance :OffsT Tryz.prog 152 [(0,5),(5,1)] [.int .i64 0,.int .i64 0,.string .empty,.string .empty,.string .empty,.slice none 0 0]:=⟨(([(0,5),(5,1)]:List (Nat×Nat)).toArray[·]?),fun _=>by kernel_rfl,fun i p h=>by simpa using h⟩
instance :FieldAt Tryz.prog 158 0 0:=⟨_,_,32,Tryz.underlying158,rfl,rfl,by kernel_rfl⟩
instance :FieldAt Tryz.prog 158 1 33:=⟨_,_,0,Tryz.underlying158,rfl,rfl,by kernel_rfl⟩
instance :OffsT Tryz.prog 158 [(0,33),(33,1)] (.int .i64 0:: .int .i64 0:: .slice none 0 0:: .int .i64 0:: .int .i64 0:: .bool false:: .int .i64 0:: .int .i64 0:: .int .i64 0:: .int .i64 0:: .int .i64 0:: .int .i64 0:: .int .u64 0:: .int .u64 0:: .int .u64 0:: .int .u64 0:: .int .i64 0:: .int .i64 0:: .int .i64 0:: .int .i64 0:: .int .i64 0:: .int .i64 0:: .int .i64 0:: .int .i64 0:: .bool false:: .int .i64 0:: .int .i64 0:: .int .i64 0:: .int .i64 0:: .int .i64 0:: .slice none 0 0:: .string .empty:: .slice none 0 0:: .string .empty::[]):=⟨(([(0,33),(33,1)]:List (Nat×Nat)).toArray[·]?),fun _=>by kernel_rfl,fun i p h=>by simpa using h⟩
instance :Ag Tryz.prog 160 6:=⟨_,Tryz.underlying160,rfl,by kernel_rfl⟩
instance :FieldAt Tryz.prog 160 0 0:=⟨_,_,0,Tryz.underlying160,rfl,rfl,by kernel_rfl⟩
instance :FieldAt Tryz.prog 160 1 1:=⟨_,_,0,Tryz.underlying160,rfl,rfl,by kernel_rfl⟩
instance :FieldAt Tryz.prog 160 2 2:=⟨_,_,0,Tryz.underlying160,rfl,rfl,by kernel_rfl⟩
instance :FieldAt Tryz.prog 160 3 3:=⟨_,_,0,Tryz.underlying160,rfl,rfl,by kernel_rfl⟩
instance :FieldAt Tryz.prog 160 4 4:=⟨_,_,0,Tryz.underlying160,rfl,rfl,by kernel_rfl⟩
instance :FieldAt Tryz.prog 160 5 5:=⟨_,_,0,Tryz.underlying160,rfl,rfl,by kernel_rfl⟩
instance :OffsT Tryz.prog 160 [(0,1),(1,1),(2,1),(3,1),(4,1),(5,1)] [.int .i64 0,.int .i64 0,.int .i64 0,.string .empty,.slice none 0 0,.string .empty]:=⟨(([(0,1),(1,1),(2,1),(3,1),(4,1),(5,1)]:List (Nat×Nat)).toArray[·]?),fun _=>by kernel_rfl,fun i p h=>by simpa using h⟩
instance :ZeroT Tryz.prog 160 [.int .i64 0,.int .i64 0,.int .i64 0,.string .empty,.slice none 0 0,.string .empty]:=⟨_,show still Tryz.prog (zeroValue 160)=some (.agg (List.toArray [.int .i64 0,.int .i64 0,.int .i64 0,.string .empty,.slice none 0 0,.string .empty])) by kernel_rfl,.agg _⟩
instance :ArrT Tryz.prog 175 9 57 1:=⟨Tryz.underlying175,by kernel_rfl⟩
instance :OffsT Tryz.prog 175 (AI6 9 1) [.int .i64 0,.int .i64 0,.int .i64 0,.int .i64 0,.int .i64 0,.int .i64 0,.int .i64 0,.int .i64 0,.int .i64 0]:=⟨fun i=>some (i * 1,1),fun _=>by kernel_rfl,AK9 9 1⟩
instance :IntT Tryz.prog 193 .u64:=⟨Tryz.underlying193⟩
instance :ArrT Tryz.prog 209 2 31 3:=⟨Tryz.underlying209,by kernel_rfl⟩
instance :OffsT Tryz.prog 209 (AI6 2 3) [.int .i64 0,.int .i64 0,.int .i64 0,.int .i64 0,.int .i64 0,.int .i64 0]:=⟨fun i=>some (i * 3,3),fun _=>by kernel_rfl,AK9 2 3⟩
instance :ArrT Tryz.prog 220 2 42 256:=⟨Tryz.underlying220,by kernel_rfl⟩
instance :Sc Tryz.prog 221:=⟨_,Tryz.underlying221,rfl,by kernel_rfl⟩
instance :SliceT Tryz.prog 221 225 4 40:=⟨Tryz.underlying221,by decide,by decide,.agg #[.int .i64 0,.int .i64 0,.int .i64 0,.string .empty],by kernel_rfl,by kernel_rfl⟩
instance :Ag Tryz.prog 225 4:=⟨_,Tryz.underlying225,rfl,by kernel_rfl⟩
instance :FieldAt Tryz.prog 225 0 0:=⟨_,_,0,Tryz.underlying225,rfl,rfl,by kernel_rfl⟩
instance :FieldAt Tryz.prog 225 3 3:=⟨_,_,0,Tryz.underlying225,rfl,rfl,by kernel_rfl⟩
instance :OffsT Tryz.prog 225 [(0,1),(1,1),(2,1),(3,1)] [.int .i64 0,.int .i64 0,.int .i64 0,.string .empty]:=⟨(([(0,1),(1,1),(2,1),(3,1)]:List (Nat×Nat)).toArray[·]?),fun _=>by kernel_rfl,fun i p h=>by simpa using h⟩
instance :ZeroT Tryz.prog 225 [.int .i64 0,.int .i64 0,.int .i64 0,.string .empty]:=⟨_,show still Tryz.prog (zeroValue 225)=some (.agg (List.toArray [.int .i64 0,.int .i64 0,.int .i64 0,.string .empty])) by kernel_rfl,.agg _⟩
instance :ArrT Tryz.prog 264 10 3 1:=⟨Tryz.underlying264,by kernel_rfl⟩
instance :OffsT Tryz.prog 264 (AI6 10 1) [.int .i64 0,.int .i64 0,.int .i64 0,.int .i64 0,.int .i64 0,.int .i64 0,.int .i64 0,.int .i64 0,.int .i64 0,.int .i64 0]:=⟨fun i=>some (i * 1,1),fun _=>by kernel_rfl,AK9 10 1⟩
instance :FieldAt Tryz.prog 268 0 0:=⟨_,_,4,Tryz.underlying268,rfl,rfl,by kernel_rfl⟩
instance :FieldAt Tryz.prog 268 1 5:=⟨_,_,0,Tryz.underlying268,rfl,rfl,by kernel_rfl⟩
instance :FieldAt Tryz.prog 268 2 6:=⟨_,_,0,Tryz.underlying268,rfl,rfl,by kernel_rfl⟩
instance :FieldAt Tryz.prog 268 3 7:=⟨_,_,0,Tryz.underlying268,rfl,rfl,by kernel_rfl⟩
instance :OffsT Tryz.prog 268 [(0,5),(5,1),(6,1),(7,1)] [.int .i64 0,.int .i64 0,.int .i64 0,.string .empty,.bool false,.slice none 0 0,.slice none 0 0,.slice none 0 0]:=⟨(([(0,5),(5,1),(6,1),(7,1)]:List (Nat×Nat)).toArray[·]?),fun _=>by kernel_rfl,fun i p h=>by simpa using h⟩
instance :Ag Tryz.prog 291 256:=⟨_,Tryz.underlying291,rfl,by kernel_rfl⟩
instance :ArrT Tryz.prog 291 256 4 1:=⟨Tryz.underlying291,by kernel_rfl⟩
instance :SliceT Tryz.prog 333 27 1 24:=⟨Tryz.underlying333,by decide,by decide,.slice none 0 0,by kernel_rfl,by kernel_rfl⟩
end
section
theorem BB4 (W:World) (hS:W.ShapedOpen Tryz.prog):∃m,∀H w,Holds ⟨W.heap.size,W⟩ H w→w.cell? ⟨2,0,none⟩=some (.int .i64 m):=by
  obtain⟨m,hm⟩:=cell_of_shapedOpen_int (P:=Tryz.prog) (w:=W) (g:=2) (t:=3) (zero:=#[.int .i64 0]) (k:= .i64) hS (by decide+kernel) (by kernel_rfl) rfl (by kernel_rfl) (by kernel_rfl) Tryz.underlying3
  refine⟨m,fun H w hw=>?_⟩
  have hlt:2<W.heap.size:=by
    rcases Nat.lt_or_ge 2 W.heap.size with h|h
    · exact h
    · exfalso
      simp [World.cell?,Array.getElem?_eq_none h] at hm
  have e:=hw.below.block 2 hlt
  rw[←hm]
  unfold World.cell?
  rw[e]
end
section
open Go.Shelf
def Tryz.lays156_ren:Go.Shelf.Ren:=⟨fun|156=>176|165=>124|166=>126|169=>127|240=>180|241=>181|276=>221|277=>222|n=>n,fun|31=>45|9=>9|3=>3|4=>4|0=>0|20=>20|72=>214|76=>217|70=>212|37=>106|75=>216|127=>234|164=>308|5=>5|80=>219|n=>n,fun|n=>n⟩
theorem Tryz.lays156:Go.Proofs.Lays.n156 Tryz.prog Tryz.lays156_ren:={
  mixed:=by kernel_rfl
  f156:=Tryz.func176.trans (congrArg some (by kernel_rfl))
  f165:=Tryz.func124.trans (congrArg some (by kernel_rfl))
  f166:=Tryz.func126.trans (congrArg some (by kernel_rfl))
  f169:=Tryz.func127.trans (congrArg some (by kernel_rfl))
  f240:=Tryz.func180.trans (congrArg some (by kernel_rfl))
  f241:=Tryz.func181.trans (congrArg some (by kernel_rfl))
  f276:=Tryz.func221.trans (congrArg some (by kernel_rfl))
  f277:=Tryz.func222.trans (congrArg some (by kernel_rfl))
  t0:=Tryz.underlying0
  a0:=Tryz.isAgg0
  z0:=Tryz.sizeOf0
  v0:=Tryz.zeroValue0
  t3:=Tryz.underlying3
  a3:=Tryz.isAgg3
  z3:=Tryz.sizeOf3
  v3:=Tryz.zeroValue3
  t4:=Tryz.underlying4
  a4:=Tryz.isAgg4
  z4:=Tryz.sizeOf4
  v4:=Tryz.zeroValue4
  t9:=Tryz.underlying9
  a9:=Tryz.isAgg9
  z9:=Tryz.sizeOf9
  v9:=Tryz.zeroValue9
  t20:=Tryz.underlying20
  a20:=Tryz.isAgg20
  z20:=Tryz.sizeOf20
  v20:=Tryz.zeroValue20
  t31:=Tryz.underlying45
  a31:=Tryz.isAgg45
  z31:=Tryz.sizeOf45
  v31:=Tryz.zeroValue45
  t37:=Tryz.underlying106
  a37:=Tryz.isAgg106
  z37:=Tryz.sizeOf106
  v37:=Tryz.zeroValue106
  t70:=Tryz.underlying212
  a70:=Tryz.isAgg212
  z70:=Tryz.sizeOf212
  v70:=Tryz.zeroValue212
  t72:=Tryz.underlying214
  a72:=Tryz.isAgg214
  z72:=Tryz.sizeOf214
  v72:=Tryz.zeroValue214
  t75:=Tryz.underlying216
  a75:=Tryz.isAgg216
  z75:=Tryz.sizeOf216
  v75:=Tryz.zeroValue216
  t76:=Tryz.underlying217
  a76:=Tryz.isAgg217
  z76:=Tryz.sizeOf217
  v76:=Tryz.zeroValue217
  t127:=Tryz.underlying234
  a127:=Tryz.isAgg234
  z127:=Tryz.sizeOf234
  v127:=Tryz.zeroValue234
  t164:=Tryz.underlying308
  a164:=Tryz.isAgg308
  z164:=Tryz.sizeOf308
  v164:=Tryz.zeroValue308}
theorem Tryz.Builder_Extra_156:Builder.Extra Tryz.prog Tryz.lays156_ren:={
  sizeBuilder:=by kernel_rfl
  liesBuilder:=by kernel_rfl
  t5:=Tryz.underlying5
  a5:=Tryz.isAgg5
  z5:=Tryz.sizeOf5
  v5:=Tryz.zeroValue5
  infoByte:=by kernel_rfl
  cellsByte:=by kernel_rfl
  sizeByte:=by kernel_rfl
  neB5:=by decide}
open Go.RowKit in
theorem Tryz.strings_Join (bk o c:Nat) (xs:List ByteArray) (sep:ByteArray) (w:World) (hcells:∀(j:Nat) x,xs[j]? =some x→w.cell? ⟨bk,o+j,none⟩=some (.string x)) (hbk:bk<w.heap.size) (hN:xs.length≤140737488355328) (hcap:xs.length≤c) (hlen:(Lib.join (xs.map (·.data.toList)) sep.data.toList).length≤140737488355328):
    Calls Tryz.prog 176 #[.slice (some ⟨bk,o,none⟩) xs.length c,.string sep] w fun e w'=>e= .returned (.string ⟨(Lib.join (xs.map (·.data.toList)) sep.data.toList).toArray⟩)∧Below w.heap.size w w':=Any.strings_Join Tryz.lays156 Tryz.Builder_Extra_156 bk o c xs sep w hcells hbk hN hcap hlen
def Tryz.laysM171_ren:Go.Shelf.Ren:=⟨fun|171=>50|243=>92|246=>144|283=>194|284=>195|285=>196|286=>197|129=>244|317=>243|318=>245|319=>246|320=>247|337=>267|338=>268|n=>n,fun|3=>3|9=>9|2=>2|4=>4|171=>284|0=>0|53=>32|37=>106|5=>5|173=>287|212=>327|51=>170|20=>20|213=>328|46=>193|232=>355|233=>356|n=>n,fun|17=>3|18=>4|19=>5|n=>n⟩
theorem Tryz.laysM171:Go.Proofs.LaysM.n171 Tryz.prog Tryz.laysM171_ren:={
  mixed:=by kernel_rfl
  f129:=Tryz.func244.trans (congrArg some (by kernel_rfl))
  f171:=Tryz.func50.trans (congrArg some (by kernel_rfl))
  f243:=Tryz.func92.trans (congrArg some (by kernel_rfl))
  f246:=Tryz.func144.trans (congrArg some (by kernel_rfl))
  f283:=Tryz.func194.trans (congrArg some (by kernel_rfl))
  f284:=Tryz.func195.trans (congrArg some (by kernel_rfl))
  f285:=Tryz.func196.trans (congrArg some (by kernel_rfl))
  f286:=Tryz.func197.trans (congrArg some (by kernel_rfl))
  f317:=Tryz.func243.trans (congrArg some (by kernel_rfl))
  f318:=Tryz.func245.trans (congrArg some (by kernel_rfl))
  f319:=Tryz.func246.trans (congrArg some (by kernel_rfl))
  f320:=Tryz.func247.trans (congrArg some (by kernel_rfl))
  f337:=Tryz.func267.trans (congrArg some (by kernel_rfl))
  f338:=Tryz.func268.trans (congrArg some (by kernel_rfl))
  t0:=Tryz.underlying0
  a0:=Tryz.isAgg0
  z0:=Tryz.sizeOf0
  v0:=Tryz.zeroValue0
  t2:=Tryz.underlying2
  a2:=Tryz.isAgg2
  z2:=Tryz.sizeOf2
  v2:=Tryz.zeroValue2
  t3:=Tryz.underlying3
  a3:=Tryz.isAgg3
  z3:=Tryz.sizeOf3
  v3:=Tryz.zeroValue3
  t4:=Tryz.underlying4
  a4:=Tryz.isAgg4
  z4:=Tryz.sizeOf4
  v4:=Tryz.zeroValue4
  t5:=Tryz.underlying5
  a5:=Tryz.isAgg5
  z5:=Tryz.sizeOf5
  v5:=Tryz.zeroValue5
  t9:=Tryz.underlying9
  a9:=Tryz.isAgg9
  z9:=Tryz.sizeOf9
  v9:=Tryz.zeroValue9
  t20:=Tryz.underlying20
  a20:=Tryz.isAgg20
  z20:=Tryz.sizeOf20
  v20:=Tryz.zeroValue20
  t37:=Tryz.underlying106
  a37:=Tryz.isAgg106
  z37:=Tryz.sizeOf106
  v37:=Tryz.zeroValue106
  t46:=Tryz.underlying193
  a46:=Tryz.isAgg193
  z46:=Tryz.sizeOf193
  v46:=Tryz.zeroValue193
  t51:=Tryz.underlying170
  a51:=Tryz.isAgg170
  z51:=Tryz.sizeOf170
  v51:=Tryz.zeroValue170
  t53:=Tryz.underlying32
  a53:=Tryz.isAgg32
  z53:=Tryz.sizeOf32
  v53:=Tryz.zeroValue32
  t171:=Tryz.underlying284
  a171:=Tryz.isAgg284
  z171:=Tryz.sizeOf284
  v171:=Tryz.zeroValue284
  t173:=Tryz.underlying287
  a173:=Tryz.isAgg287
  z173:=Tryz.sizeOf287
  v173:=Tryz.zeroValue287
  t212:=Tryz.underlying327
  a212:=Tryz.isAgg327
  z212:=Tryz.sizeOf327
  v212:=Tryz.zeroValue327
  t213:=Tryz.underlying328
  a213:=Tryz.isAgg328
  z213:=Tryz.sizeOf328
  t232:=Tryz.underlying355
  a232:=Tryz.isAgg355
  z232:=Tryz.sizeOf355
  v232:=Tryz.zeroValue355
  t233:=Tryz.underlying356
  a233:=Tryz.isAgg356
  z233:=Tryz.sizeOf356
  v233:=Tryz.zeroValue356
  g17:=by kernel_rfl
  g18:=by kernel_rfl
  g19:=by kernel_rfl
  i0:=by kernel_rfl
  i2:=by kernel_rfl
  i3:=by kernel_rfl
  i4:=by kernel_rfl
  i5:=by kernel_rfl
  i9:=by kernel_rfl
  i20:=by kernel_rfl
  i37:=by kernel_rfl
  i46:=by kernel_rfl
  i51:=by kernel_rfl
  i53:=by kernel_rfl
  i171:=by kernel_rfl
  i173:=by kernel_rfl
  i212:=by kernel_rfl
  i232:=by kernel_rfl
  i233:=by kernel_rfl
  m17:=by kernel_rfl
  m18:=by kernel_rfl
  m19:=by kernel_rfl}
open Go.RowKit Go.Sort Go.Lib in
theorem Tryz.strconv_Itoa (n:Int) (h0: -9223372036854775808≤n) (h1:n≤9223372036854775807) (w:World) (htab:Lib.TabIs Tryz.prog w "internal/strconv.uint64pow10" .u64 Lib.pow10Tab):
    Calls Tryz.prog 50 #[.int .i64 n] w fun e w'=>e= .returned (.string ⟨(Lib.itoa n).toArray⟩)∧∃k os,w'=grow (w.drewN k) os:=Any.strconv_Itoa Tryz.laysM171 n h0 h1 w htab
def Tryz.lays146_ren:Go.Shelf.Ren:=⟨fun|146=>146|221=>205|268=>251|138=>123|143=>125|195=>178|197=>29|218=>179|219=>182|260=>53|217=>174|225=>223|224=>224|267=>225|266=>219|314=>258|n=>n,fun|9=>9|31=>45|3=>3|4=>4|0=>0|105=>110|21=>21|5=>5|46=>193|119=>42|139=>196|138=>195|146=>340|51=>170|n=>n,fun|1=>2|3=>0|4=>1|n=>n⟩
theorem Tryz.lays146:Go.Proofs.Lays.n146 Tryz.prog Tryz.lays146_ren:={
  mixed:=by kernel_rfl
  f138:=Tryz.func123.trans (congrArg some (by kernel_rfl))
  f143:=Tryz.func125.trans (congrArg some (by kernel_rfl))
  f146:=Tryz.func146.trans (congrArg some (by kernel_rfl))
  f195:=Tryz.func178.trans (congrArg some (by kernel_rfl))
  f197:=Tryz.func29.trans (congrArg some (by kernel_rfl))
  f217:=Tryz.func174.trans (congrArg some (by kernel_rfl))
  f218:=Tryz.func179.trans (congrArg some (by kernel_rfl))
  f219:=Tryz.func182.trans (congrArg some (by kernel_rfl))
  f221:=Tryz.func205.trans (congrArg some (by kernel_rfl))
  f224:=Tryz.func224.trans (congrArg some (by kernel_rfl))
  f225:=Tryz.func223.trans (congrArg some (by kernel_rfl))
  f260:=Tryz.func53.trans (congrArg some (by kernel_rfl))
  f266:=Tryz.func219.trans (congrArg some (by kernel_rfl))
  f267:=Tryz.func225.trans (congrArg some (by kernel_rfl))
  f268:=Tryz.func251.trans (congrArg some (by kernel_rfl))
  f314:=Tryz.func258.trans (congrArg some (by kernel_rfl))
  t0:=Tryz.underlying0
  a0:=Tryz.isAgg0
  z0:=Tryz.sizeOf0
  v0:=Tryz.zeroValue0
  t3:=Tryz.underlying3
  a3:=Tryz.isAgg3
  z3:=Tryz.sizeOf3
  v3:=Tryz.zeroValue3
  t4:=Tryz.underlying4
  a4:=Tryz.isAgg4
  z4:=Tryz.sizeOf4
  v4:=Tryz.zeroValue4
  t5:=Tryz.underlying5
  a5:=Tryz.isAgg5
  z5:=Tryz.sizeOf5
  v5:=Tryz.zeroValue5
  t9:=Tryz.underlying9
  a9:=Tryz.isAgg9
  z9:=Tryz.sizeOf9
  v9:=Tryz.zeroValue9
  t21:=Tryz.underlying21
  a21:=Tryz.isAgg21
  z21:=Tryz.sizeOf21
  v21:=Tryz.zeroValue21
  t31:=Tryz.underlying45
  a31:=Tryz.isAgg45
  z31:=Tryz.sizeOf45
  v31:=Tryz.zeroValue45
  t46:=Tryz.underlying193
  a46:=Tryz.isAgg193
  z46:=Tryz.sizeOf193
  v46:=Tryz.zeroValue193
  t51:=Tryz.underlying170
  a51:=Tryz.isAgg170
  z51:=Tryz.sizeOf170
  v51:=Tryz.zeroValue170
  t105:=Tryz.underlying110
  a105:=Tryz.isAgg110
  z105:=Tryz.sizeOf110
  v105:=Tryz.zeroValue110
  t119:=Tryz.underlying42
  a119:=Tryz.isAgg42
  z119:=Tryz.sizeOf42
  t138:=Tryz.underlying195
  a138:=Tryz.isAgg195
  z138:=Tryz.sizeOf195
  v138:=Tryz.zeroValue195
  t139:=Tryz.underlying196
  a139:=Tryz.isAgg196
  z139:=Tryz.sizeOf196
  v139:=Tryz.zeroValue196
  t146:=Tryz.underlying340
  a146:=Tryz.isAgg340
  z146:=Tryz.sizeOf340
  v146:=Tryz.zeroValue340
  g1:=by kernel_rfl
  g3:=by kernel_rfl
  g4:=by kernel_rfl}
open Go.RowKit Go.Lib in
theorem Tryz.strings_Split (s sep:ByteArray) (m:Int) (w:World) (hs:s.size<4294967281) (hm:w.cell? ⟨2,0,none⟩=some (.int .i64 m)) (h1:1≤sep.size):
    Calls Tryz.prog 146 #[.string s,.string sep] w fun e w'=>
      e= .returned (.slice (some ⟨w.heap.size,0,none⟩) (Lib.countB s sep+1) (Lib.countB s sep+1))∧w'=w.alloc (.cells ((Lib.splitB sep 0 (Lib.countB s sep) s).map Value.string).toArray 9):=Any.strings_Split Tryz.lays146 (by kernel_rfl) s sep m w hs hm h1
def Tryz.lays155_ren:Go.Shelf.Ren:=⟨fun|155=>40|154=>68|138=>123|165=>124|143=>125|166=>126|197=>29|169=>127|195=>178|218=>179|240=>180|241=>181|219=>182|260=>53|276=>221|277=>222|217=>174|225=>223|224=>224|267=>225|266=>219|314=>258|n=>n,fun|9=>9|3=>3|4=>4|72=>214|0=>0|76=>217|105=>110|21=>21|5=>5|70=>212|20=>20|37=>106|75=>216|127=>234|164=>308|46=>193|119=>42|139=>196|138=>195|146=>340|51=>170|80=>219|n=>n,fun|1=>2|3=>0|4=>1|n=>n⟩
theorem Tryz.lays155:Go.Proofs.Lays.n155 Tryz.prog Tryz.lays155_ren:={
  mixed:=by kernel_rfl
  f138:=Tryz.func123.trans (congrArg some (by kernel_rfl))
  f143:=Tryz.func125.trans (congrArg some (by kernel_rfl))
  f154:=Tryz.func68.trans (congrArg some (by kernel_rfl))
  f155:=Tryz.func40.trans (congrArg some (by kernel_rfl))
  f165:=Tryz.func124.trans (congrArg some (by kernel_rfl))
  f166:=Tryz.func126.trans (congrArg some (by kernel_rfl))
  f169:=Tryz.func127.trans (congrArg some (by kernel_rfl))
  f195:=Tryz.func178.trans (congrArg some (by kernel_rfl))
  f197:=Tryz.func29.trans (congrArg some (by kernel_rfl))
  f217:=Tryz.func174.trans (congrArg some (by kernel_rfl))
  f218:=Tryz.func179.trans (congrArg some (by kernel_rfl))
  f219:=Tryz.func182.trans (congrArg some (by kernel_rfl))
  f224:=Tryz.func224.trans (congrArg some (by kernel_rfl))
  f225:=Tryz.func223.trans (congrArg some (by kernel_rfl))
  f240:=Tryz.func180.trans (congrArg some (by kernel_rfl))
  f241:=Tryz.func181.trans (congrArg some (by kernel_rfl))
  f260:=Tryz.func53.trans (congrArg some (by kernel_rfl))
  f266:=Tryz.func219.trans (congrArg some (by kernel_rfl))
  f267:=Tryz.func225.trans (congrArg some (by kernel_rfl))
  f276:=Tryz.func221.trans (congrArg some (by kernel_rfl))
  f277:=Tryz.func222.trans (congrArg some (by kernel_rfl))
  f314:=Tryz.func258.trans (congrArg some (by kernel_rfl))
  t0:=Tryz.underlying0
  a0:=Tryz.isAgg0
  z0:=Tryz.sizeOf0
  v0:=Tryz.zeroValue0
  t3:=Tryz.underlying3
  a3:=Tryz.isAgg3
  z3:=Tryz.sizeOf3
  v3:=Tryz.zeroValue3
  t4:=Tryz.underlying4
  a4:=Tryz.isAgg4
  z4:=Tryz.sizeOf4
  v4:=Tryz.zeroValue4
  t5:=Tryz.underlying5
  a5:=Tryz.isAgg5
  z5:=Tryz.sizeOf5
  v5:=Tryz.zeroValue5
  t9:=Tryz.underlying9
  a9:=Tryz.isAgg9
  z9:=Tryz.sizeOf9
  v9:=Tryz.zeroValue9
  t20:=Tryz.underlying20
  a20:=Tryz.isAgg20
  z20:=Tryz.sizeOf20
  v20:=Tryz.zeroValue20
  t21:=Tryz.underlying21
  a21:=Tryz.isAgg21
  z21:=Tryz.sizeOf21
  v21:=Tryz.zeroValue21
  t37:=Tryz.underlying106
  a37:=Tryz.isAgg106
  z37:=Tryz.sizeOf106
  v37:=Tryz.zeroValue106
  t46:=Tryz.underlying193
  a46:=Tryz.isAgg193
  z46:=Tryz.sizeOf193
  v46:=Tryz.zeroValue193
  t51:=Tryz.underlying170
  a51:=Tryz.isAgg170
  z51:=Tryz.sizeOf170
  v51:=Tryz.zeroValue170
  t70:=Tryz.underlying212
  a70:=Tryz.isAgg212
  z70:=Tryz.sizeOf212
  v70:=Tryz.zeroValue212
  t72:=Tryz.underlying214
  a72:=Tryz.isAgg214
  z72:=Tryz.sizeOf214
  v72:=Tryz.zeroValue214
  t75:=Tryz.underlying216
  a75:=Tryz.isAgg216
  z75:=Tryz.sizeOf216
  v75:=Tryz.zeroValue216
  t76:=Tryz.underlying217
  a76:=Tryz.isAgg217
  z76:=Tryz.sizeOf217
  v76:=Tryz.zeroValue217
  t105:=Tryz.underlying110
  a105:=Tryz.isAgg110
  z105:=Tryz.sizeOf110
  v105:=Tryz.zeroValue110
  t119:=Tryz.underlying42
  a119:=Tryz.isAgg42
  z119:=Tryz.sizeOf42
  t127:=Tryz.underlying234
  a127:=Tryz.isAgg234
  z127:=Tryz.sizeOf234
  v127:=Tryz.zeroValue234
  t138:=Tryz.underlying195
  a138:=Tryz.isAgg195
  z138:=Tryz.sizeOf195
  v138:=Tryz.zeroValue195
  t139:=Tryz.underlying196
  a139:=Tryz.isAgg196
  z139:=Tryz.sizeOf196
  v139:=Tryz.zeroValue196
  t146:=Tryz.underlying340
  a146:=Tryz.isAgg340
  z146:=Tryz.sizeOf340
  v146:=Tryz.zeroValue340
  t164:=Tryz.underlying308
  a164:=Tryz.isAgg308
  z164:=Tryz.sizeOf308
  v164:=Tryz.zeroValue308
  g1:=by kernel_rfl
  g3:=by kernel_rfl
  g4:=by kernel_rfl}
theorem Tryz.Builder_Extra_155:Builder.Extra Tryz.prog Tryz.lays155_ren:={
  sizeBuilder:=by kernel_rfl
  liesBuilder:=by kernel_rfl
  t5:=Tryz.underlying5
  a5:=Tryz.isAgg5
  z5:=Tryz.sizeOf5
  v5:=Tryz.zeroValue5
  infoByte:=by kernel_rfl
  cellsByte:=by kernel_rfl
  sizeByte:=by kernel_rfl
  neB5:=by decide}
open Go.RowKit Go.Lib in
theorem Tryz.strings_ReplaceAll (s old new:ByteArray) (m:Int) (w:World) (hs:s.size<4294967281) (hm:w.cell? ⟨2,0,none⟩=some (.int .i64 m)) (h1:1≤old.size) (hlen:s.size+Lib.countB s old * new.size≤140737488355328):
    Calls Tryz.prog 40 #[.string s,.string old,.string new] w fun e w'=>
      e= .returned (.string ⟨(Lib.replaceAll s.data.toList old.data.toList new.data.toList).toArray⟩)∧Below w.heap.size w w':=Any.strings_ReplaceAll Tryz.lays155 Tryz.Builder_Extra_155 s old new m w hs hm h1 hlen
def Tryz.lays227_ren:Go.Shelf.Ren:=⟨fun|227=>200|n=>n,fun|9=>9|116=>291|4=>4|0=>0|3=>3|5=>5|n=>n,fun|n=>n⟩
theorem Tryz.lays227:Go.Proofs.Lays.n227 Tryz.prog Tryz.lays227_ren:={
  mixed:=by kernel_rfl
  f227:=Tryz.func200.trans (congrArg some (by kernel_rfl))
  t0:=Tryz.underlying0
  a0:=Tryz.isAgg0
  z0:=Tryz.sizeOf0
  v0:=Tryz.zeroValue0
  t3:=Tryz.underlying3
  a3:=Tryz.isAgg3
  z3:=Tryz.sizeOf3
  v3:=Tryz.zeroValue3
  t4:=Tryz.underlying4
  a4:=Tryz.isAgg4
  z4:=Tryz.sizeOf4
  v4:=Tryz.zeroValue4
  t5:=Tryz.underlying5
  a5:=Tryz.isAgg5
  z5:=Tryz.sizeOf5
  v5:=Tryz.zeroValue5
  t9:=Tryz.underlying9
  a9:=Tryz.isAgg9
  z9:=Tryz.sizeOf9
  v9:=Tryz.zeroValue9
  t116:=Tryz.underlying291
  a116:=Tryz.isAgg291
  z116:=Tryz.sizeOf291}
open Go.RowKit Go.Lib in
theorem Tryz.strings_makeASCIISet (hv116:∀w,(zeroValue 291).run Tryz.prog w= .ok (.agg (Array.replicate 256 (.bool false))) w) (chars:ByteArray) (w:World) (hs:chars.size<4294967281) (hascii:∀(j:Nat) b,chars.data.toList[j]? =some b→b.toNat<128):
    Calls Tryz.prog 200 #[.string chars] w fun e w'=>e= .returned (.tuple #[.agg (Lib.setCells chars.data.toList),.bool true])∧w'=w.alloc (.cells (Lib.setCells chars.data.toList) 291):=Any.strings_makeASCIISet Tryz.lays227 hv116 (by kernel_rfl) chars w hs hascii
def Tryz.lays197_ren:Go.Shelf.Ren:=⟨fun|197=>29|260=>53|n=>n,fun|9=>9|21=>21|3=>3|4=>4|5=>5|105=>110|119=>42|0=>0|46=>193|139=>196|138=>195|n=>n,fun|3=>0|4=>1|n=>n⟩
theorem Tryz.lays197:Go.Proofs.Lays.n197 Tryz.prog Tryz.lays197_ren:={
  mixed:=by kernel_rfl
  f197:=Tryz.func29.trans (congrArg some (by kernel_rfl))
  f260:=Tryz.func53.trans (congrArg some (by kernel_rfl))
  t0:=Tryz.underlying0
  a0:=Tryz.isAgg0
  z0:=Tryz.sizeOf0
  v0:=Tryz.zeroValue0
  t3:=Tryz.underlying3
  a3:=Tryz.isAgg3
  z3:=Tryz.sizeOf3
  v3:=Tryz.zeroValue3
  t4:=Tryz.underlying4
  a4:=Tryz.isAgg4
  z4:=Tryz.sizeOf4
  v4:=Tryz.zeroValue4
  t5:=Tryz.underlying5
  a5:=Tryz.isAgg5
  z5:=Tryz.sizeOf5
  v5:=Tryz.zeroValue5
  t9:=Tryz.underlying9
  a9:=Tryz.isAgg9
  z9:=Tryz.sizeOf9
  v9:=Tryz.zeroValue9
  t21:=Tryz.underlying21
  a21:=Tryz.isAgg21
  z21:=Tryz.sizeOf21
  v21:=Tryz.zeroValue21
  t46:=Tryz.underlying193
  a46:=Tryz.isAgg193
  z46:=Tryz.sizeOf193
  v46:=Tryz.zeroValue193
  t105:=Tryz.underlying110
  a105:=Tryz.isAgg110
  z105:=Tryz.sizeOf110
  v105:=Tryz.zeroValue110
  t119:=Tryz.underlying42
  a119:=Tryz.isAgg42
  z119:=Tryz.sizeOf42
  t138:=Tryz.underlying195
  a138:=Tryz.isAgg195
  z138:=Tryz.sizeOf195
  v138:=Tryz.zeroValue195
  t139:=Tryz.underlying196
  a139:=Tryz.isAgg196
  z139:=Tryz.sizeOf196
  v139:=Tryz.zeroValue196
  g3:=by kernel_rfl
  g4:=by kernel_rfl}
open Go.RowKit Go.Lib in
theorem Tryz.utf8_DecodeRuneInString (s:ByteArray) (w:World) (hT:Lib.Utf8Tabs 0 1 w):
    Calls Tryz.prog 29 #[.string s] w fun e w'=>e= .returned (.tuple #[.int .i32 (Lib.decodeGo s).1,.int .i64 (Lib.decodeGo s).2])∧Below w.heap.size w w':=Any.utf8_DecodeRuneInString Tryz.lays197 s w hT
end
section
set_option maxRecDepth 1000000
set_option maxHeartbeats 4000000
theorem Bh0:Rows.laid_unicode_utf8_first=Lib.firstData:=by kernel_rfl
theorem BV6:(Rows.laid_unicode_utf8_acceptRanges:DataW Unit)=Lib.acceptData:=by kernel_rfl
theorem B68 {laid:List (String×DataW Unit)} {W:World} (hL:laidMet Tryz.prog laid W) (h1:("unicode/utf8.first",Rows.laid_unicode_utf8_first)∈laid) (h2:("unicode/utf8.acceptRanges",Rows.laid_unicode_utf8_acceptRanges)∈laid):Lib.Utf8Tabs 0 1 W:=
  utf8Tabs_of_reads {Tryz.lays197 with} ⟨by kernel_rfl,by kernel_rfl,by kernel_rfl,by kernel_rfl,by kernel_rfl,by kernel_rfl,by kernel_rfl⟩ (Bh0▸Lib.laidMet.reads hL h1) (BV6▸Lib.laidMet.reads hL h2)
theorem Bs2 {W:World} (h:Lib.Utf8Tabs 0 1 W):∀H w,Holds ⟨W.heap.size,W⟩ H w→Lib.Utf8Tabs 0 1 w:=by
  intro H w hw
  have key:∀b c v,W.cell? ⟨b,c,none⟩=some v→w.cell? ⟨b,c,none⟩=some v:=fun b c v hm=>by
    have hlt:b<W.heap.size:=by
      rcases Nat.lt_or_ge b W.heap.size with h|h
      · exact h
      · exfalso
        simp [World.cell?,Array.getElem?_eq_none h] at hm
    have e:=hw.below.block b hlt
    rw[←hm]
    unfold World.cell?
    rw[e]
  exact⟨fun c hc=>key _ _ _ (h.1 c hc),fun i hi=>⟨key _ _ _ (h.2 i hi).1,key _ _ _ (h.2 i hi).2⟩⟩
end
end Go.Proofs.YtmmnimagbnlcmaaGreatDoor
section
namespace Go.Sx
open Go Go.RowKit Go.Fw
theorem Av9 {P:Program} (w:World) (dT sT ty elem:TypeId) (sz g o dLen dCap:Nat) (a:Addr) (sLen sCap:Nat) (cur:Array Value) (t:TypeId) (cs:List Value)
    (hu:P.underlying dT=some (.slice elem)) (hs:(P.info? elem).map (·.size)=some sz)
    (hg:w.heap[g]? =some (.cells cur t (0,0))) (hn:cs.length=Nat.min sLen dLen * sz)
    (hsrc:∀j v,cs[j]? =some v→w.cell? (a.add j)=some v) (hfit:o+cs.length≤cur.size) (h1:∀v∈cs,v.oneCell'=true):
    (Builtin.copy_ #[dT,sT] ty #[.slice (some ⟨g,o,none⟩) dLen dCap,.slice (some a) sLen sCap]).run P w=
      .ok (goInt (Nat.min sLen dLen)) (w.setRow g (cur.toList.take o++cs++cur.toList.drop (o+cs.length)).toArray):=by
  have hl:=run_loadCells_list (P:=P) w a cs hsrc
  have hst:=run_storeCells_at P g o t cs 0 cur w hg (by simpa using hfit) h1
  cases hq:P.info? elem with
  | none=>simp [hq] at hs
  | some i=>
    have hi:i.size=sz:=by simpa [hq] using hs
    simp [Builtin.copy_,run_underlying hu,Builtin.lenOf,Builtin.firstCells,sizeOf,typeInfo,hq,hi,←hn,hl,hst]
theorem run_copy_none' {P:Program} (w:World) (dT sT ty elem:TypeId) (sz:Nat) (d a:Option Addr) (dLen dCap sLen sCap:Nat) (hu:P.underlying dT=some (.slice elem)) (hs:(P.info? elem).map (·.size)=some sz) (hn:Nat.min sLen dLen=0):
    (Builtin.copy_ #[dT,sT] ty #[.slice d dLen dCap,.slice a sLen sCap]).run P w= .ok (goInt 0) w:=by
  cases hq:P.info? elem with
  | none=>simp [hq] at hs
  | some i=>
    have hl:∀(x:Addr),(loadCells x 0).run P w= .ok #[] w:=fun x=>by simpa using run_loadCells_list (P:=P) w x [] (by simp)
    cases d<;>cases a<;>simp [Builtin.copy_,run_underlying hu,Builtin.lenOf,Builtin.firstCells,sizeOf,typeInfo,hq,hn,storeCells,hl]
section
variable {P:Program} {G:Ctx} {n:Sz} {ops:Array Oper} {Q:Post} {s:Fm} {H:List Ent} {o:Oper} {rest:List Oper}
/-- copy of elements of several cells, into a row that is held. -/
theorem Ap3 {x y:Operand} {dT sT e sz bytes dl dc sl sc len c b off m d:Nat} {a2:Option Addr} {xs ys:List Value} {H':List Ent} (hg:o.guard=none) (ho:o.op= .call {callee:= .builtin .copy,args:=#[x,y],argTypes:=#[dT,sT]}) [hT:SliceT P dT e sz bytes] (hx:ev s x=some (.slice (some ⟨b,off,none⟩) dl dc)) (hy:ev s y=some (.slice a2 sl sc)) [hp:PickOwn H (some ⟨b,0,none⟩) e sz len c xs H'] [hr:RdC G H a2 ys]
    (hm:m=min sl dl) (hys:m * sz≤ys.length) (hfit:off+m * sz≤len * sz) (h1:(ys.take (m * sz)).all (·.oneCell')=true) (h1d:o.dst=some d) (h2d:Nat.blt d n.n=true)
    (hk:SL P G n ops Q rest ((d,.int .i64 m)::s) (.own e sz (some ⟨b,0,none⟩) len c (over xs off (ys.take (m * sz)))::H')):SL P G n ops Q (o::rest) s H:=by
  have hd:=okd (n:=n) h1d h2d
  simp only[←updd h1d] at hk
  refine AC4 (.inl hg) fun act w ha hw K hK=>?_
  have hr':=hr.here w hw
  have hw:=hw.pick hp.here
  have hown:w.ownsRow G.B e sz (.slice (some ⟨b,0,none⟩) len c) len xs:=hw.ok _ List.mem_cons_self
  have hsz:=hT.size
  have hu:=hT.here.1
  have hsz0:=hT.here.2.1
  unfold Oper.wp execOp
  simp only[ho,resolve,invoke,builtin,Sem.run_bind,Sem.run_pure,Result.andThen_ok,List.map_toArray,List.map_cons,List.map_nil,ha.ev hx,ha.ev hy]
  rcases Nat.eq_zero_or_pos m with h0|h0
  · have hrun:=run_copy_none' (P:=P) w dT sT o.type e sz (some ⟨b,off,none⟩) a2 dl dc sl sc hu hsz (by rw[←h0];exact hm.symm)
    simp only[hrun,Result.andThen_ok]
    subst h0
    have e1:over xs off (ys.take (0 * sz))=xs:=by simp [over]
    rw[e1] at hk
    exact hK _ _ (hk _ _ (ha.put _ _ hd) hw)
  · have hpos:0<m * sz:=Nat.mul_pos h0 hsz0
    obtain⟨hlen,⟨hv,hz⟩|⟨g,cap,cur,hv,hB,hh,hn,hmx,hs,ht⟩⟩:=hown
    · subst hz
      rw[Nat.zero_mul] at hfit
      omega
    · obtain⟨rfl,rfl⟩:b=g∧c=cap:=by
        simp only[Value.slice.injEq,Option.some.injEq,Addr.mk.injEq,and_true,true_and] at hv
        exact hv
      obtain⟨b2,off2,rfl,hc2⟩:=At.someAt hr' (by omega)
      have hcl:(ys.take (m * sz)).length=m * sz:=by rw[List.length_take];omega
      have hcur2:xs.length≤cur.toList.length:=by rw[←ht,List.length_take];exact Nat.min_le_right _ _
      have hmm:Nat.min sl dl=m:=hm.symm
      have hrun:=Av9 (P:=P) w dT sT o.type e sz b off dl dc ⟨b2,off2,none⟩ sl sc cur e (ys.take (m * sz)) hu hsz hh (by rw[hcl,hmm]) (fun j v hj=>by
        have hj':j<m * sz:=by
          have:=(List.getElem?_eq_some_iff.1 hj).1
          rw[hcl] at this
          exact this
        rw[Addr.add_mid,hc2 j (by omega)]
        rw[List.getElem?_take_of_lt hj'] at hj
        exact hj) (by rw[hcl,←Array.length_toList];omega) (fun v hv=>List.all_eq_true.1 h1 v hv)
      rw[hmm] at hrun
      simp only[hrun,Result.andThen_ok]
      have hov:(cur.toList.take off++ys.take (m * sz)++cur.toList.drop (off+(ys.take (m * sz)).length))=over cur.toList off (ys.take (m * sz)):=rfl
      rw[hov]
      have hl:off+(ys.take (m * sz)).length≤xs.length:=by rw[hcl,hlen];exact hfit
      have hcl2:off+(ys.take (m * sz)).length≤cur.toList.length:=by omega
      have e2:(over cur.toList off (ys.take (m * sz))).take (len * sz)=over xs off (ys.take (m * sz)):=by
        have h4:off+(ys.take (m * sz)).length≤len * sz:=by rw[←hlen];exact hl
        unfold over
        rw[←ht,List.take_take,Nat.min_eq_left (by omega),List.drop_take]
        have h3:(cur.toList.take off).length=off:=by rw[List.length_take];omega
        rw[List.take_append,List.take_of_length_le (by rw[List.length_append,h3];omega)]
        congr 2
        rw[List.length_append,h3]
      have hw':Holds G (.own e sz (some ⟨b,0,none⟩) len c (over xs off (ys.take (m * sz)))::H') (w.setRow b (over cur.toList off (ys.take (m * sz))).toArray):=by
        obtain⟨hap,hapH⟩:=List.pairwise_cons.1 hw.apart
        refine⟨below_setRow hw.below hB _,by simpa using hw.base,fun z hz=>?_,List.pairwise_cons.2 ⟨fun y hy k hk=>hap y hy k hk,hapH⟩⟩
        rcases List.mem_cons.1 hz with rfl|hz
        · refine⟨?_,.inr ⟨b,c,(over cur.toList off (ys.take (m * sz))).toArray,rfl,hB,setRow_heap w b _ _ e (0,0) hh,hn,hmx,?_,by rw[List.toList_toArray];exact e2⟩⟩
          · rw[AZ8 hl];exact hlen
          · rw[List.size_toArray,AZ8 hcl2,Array.length_toList];exact hs
        · exact Ent.ok_of (hw.ok z (List.mem_cons_of_mem _ hz)) fun j hj=>setRow_other w b j _ (fun e=>hap z hz b rfl (e▸hj))
      exact hK _ _ (hk _ _ (ha.put _ _ hd) hw')
end
end Go.Sx
namespace Go.Sx
open Go Go.RowKit Go.Fw
section
variable {P:Program} {G:Ctx} {n:Sz} {ops:Array Oper} {Q:Post} {s:Fm} {H:List Ent} {o:Oper} {rest:List Oper}
end
/-- What is made has a place, if it is not empty. -/
theorem BF5 {P:Program} {G:Ctx} {f:FuncId} {args:List Value} {H:List Ent} {e sz n:Nat} {xs:List Value} {F:Option Addr→Nat→Value} (h:SC P G f args H fun v H'=>∃a' c',v=F a' c'∧H'= .own e sz a' n c' xs::H) (hn:0<n):SC P G f args H fun v H'=>∃b c',n≤c'∧v=F (some ⟨b,0,none⟩) c'∧H'= .own e sz (some ⟨b,0,none⟩) n c' xs::H:=⟨h.1,fun w hw=>(h.2 w hw).mono fun r w' ⟨v,H',h1,h2,a',c',h3,h4⟩=>by
  subst h4
  obtain⟨b,rfl,hc⟩:=A22 h2 List.mem_cons_self hn
  exact⟨v,_,h1,h2,b,c',hc,h3,rfl⟩⟩
end Go.Sx
namespace Go.Sx
open Go Go.RowKit Go.Fw
class PickObj (H:List Ent) (g:Nat) (o:outParam Obj) (H':outParam (List Ent)):Prop where
  here:Pick (.obj g o) H H'
instance (priority:=low) CE0 {H H':List Ent} {g:Nat} {o:Obj} {x:Ent} [h:PickObj H g o H']:PickObj (x::H) g o (x::H'):=⟨.there h.here⟩
instance CE2 {H:List Ent} {g:Nat} {o:Obj}:PickObj (.obj g o::H) g o H:=⟨.here _⟩
section
variable {P:Program} {G:Ctx} {n:Sz} {ops:Array Oper} {Q:Post} {s:Fm} {H:List Ent} {o:Oper} {rest:List Oper}
theorem CD5 {x y:Operand} {ats:Array TypeId} {k k':IntKind} {p q:Int} (ho:o.op= .call {callee:= .builtin .min,args:=#[x,y],argTypes:=ats}) (hx:ev s x=some (.int k p)) (hy:ev s y=some (.int k' q)):Yields P G n s H o (.int k (min p q)):=fun a w ha _=>by
  have e:min p q=if q<p then q else p:=by split<;>omega
  unfold execOp;rw[ho,e]
  simp only[resolve,invoke,Sem.run_bind,Sem.run_pure,Result.andThen_ok,builtin,List.map_toArray,List.map_cons,List.map_nil,ha.ev hx,ha.ev hy,run_min_int2]
/-- A byte of a text, by its value. -/
theorem Z5 {t:Nat} {x y:Operand} {k:IntKind} {i v:Int} {b:ByteArray} (hv:(nums b).getD i.toNat 0=v) (ho:o.op= .index t x y) [h:StrT P t] (hx:ev s x=some (.string b)) (hy:ev s y=some (.int k i)) (h0:0≤i) (hi:i<b.size):Yields P G n s H o (.int .u8 v):=hv▸o8 ho hx hy h0 hi
/-- A number below 128 as a text. -/
theorem Ax7 {src dst:TypeId} {k:IntKind} {x:Operand} {m:Int} (ho:o.op= .convert src dst x) [h1:IntT P src k] [h2:StrT P dst] (hx:ev s x=some (.int k m)) (h0:0≤m) (hm:m<128):Yields P G n s H o (.string (strOfNums [m])):=fun a w ha _=>by
  have e:Utf8.encode m=strOfNums [m]:=by
    have hv:Utf8.valid m=true:=by simp [Utf8.valid];omega
    have h3:m.toNat<128:=by omega
    unfold Utf8.encode
    rw[hv]
    simp only[if_true]
    rw[if_pos h3]
    rfl
  unfold execOp;rw[ho];simp only[ha.ev hx]
  refine Y1 ?_
  simp only[convert,Sem.run_bind,run_underlying h1.here,run_underlying h2.here,Result.andThen_ok,Conv.intToString,Sem.run_pure,e]
/-- A piece of a text, by its value. -/
theorem AG0 {t:TypeId} {x:Operand} {lo hi:Option Operand} {b v:ByteArray} {l h:Int} (hv:b.extract l.toNat h.toNat=v) (ho:o.op= .slice t x lo hi none) [ht:StrT P t] (hx:ev s x=some (.string b)) (hl:bnd s 0 lo=some l) (hh:bnd s b.size hi=some h) (h0:0≤l) (h1:l≤h) (h2:h≤b.size):Yields P G n s H o (.string v):=hv▸Al6 ho hx hl hh h0 h1 h2
end
end Go.Sx
namespace Go.Sx
open Go Go.RowKit Go.Fw
section
variable {P:Program} {G:Ctx} {n:Sz} {ops:Array Oper} {Q:Post} {s:Fm} {H:List Ent} {o:Oper} {rest:List Oper}
end
theorem Bm9 {P:Program} {K:Value→Prop} {x y:Operand} {t:TypeId} {k':IntKind} {q D:Int} (hD:pw q.toNat=D) (h0:0≤q) (h1:q≤63) (hk:K (.int .u64 D)):BB P .shl t x y (.int .u64 1) (.int k' q) K:=Bs1 h0 h1 (hD▸hk)
theorem AT0 {P:Program} {K:Value→Prop} {x y:Operand} {t:TypeId} {op:BinOp} {k:IntKind} {p q D:Int} (hop:(match op with| .and| .or| .xor| .andNot=>true|_=>false)=true) (hD:ibits op k p q=D) (hk:K (.int k D)):BB P op t x y (.int k p) (.int k q) K:=B26 hop (hD▸hk)
theorem AM5 {P:Program} {G:Ctx} {n:Sz} {ops:Array Oper} {Q:Post} {s:Fm} {H:List Ent} {o:Oper} {rest:List Oper} {t t':TypeId} {x y:Operand} {b off:Nat} {cs cs':List Value} {v:Value} {H':List Ent} (hg:o.guard=none) (ho:o.op= .store t x y) [h:Sc P t] (hx:ev s x=some (.pointer (some ⟨b,off,none⟩))) (hy:ev s y=some v) [hp:PickBlk H b t' cs H'] (h1:v.oneCell'=true) (hs:cs.set off v=cs')
    (hl:off<cs.length) (hd:o.dst=none) (hk:SL P G n ops Q rest s (.blk b t' cs'::H')):SL P G n ops Q (o::rest) s H:=Bn5 hg ho hx hy h1 hl hd (hs▸hk)
theorem Ap5 {P:Program} {K:Value→Prop} {x y:Operand} {t:TypeId} {a b r:ByteArray} (hr:a++b=r) (h:a.size+b.size≤9223372036854775807) (hk:K (.string r)):BB P .add t x y (.string a) (.string b) K:=AW6 h (hr▸hk)
end Go.Sx
namespace Go.Sx
open Go Go.RowKit Go.Fw
end Go.Sx
namespace Go.Sx
open Go Go.RowKit Go.Fw
end Go.Sx
namespace Go.Sx
open Go Go.RowKit Go.Fw
section
variable {P:Program} {ops:Array Oper} {Q:Exit→Act→World→Prop} {md:Region.Mode}
/-- Whatever comes up next, and S holds of what is listed and of the world behind it. -/
def runs (P:Program) (md:Region.Mode) (ops:Array Oper) (Q:Exit→Act→World→Prop) (S:Array Bool→World→Prop) (m:Nat):Array Bool→Act→World→Prop:=
  m.rec (fun l a w=>Region.ready md ops l=[]∧Q .normal a w)
    fun _ go l a w=>(Region.ready md ops l=[]→Q .normal a w)∧∀i∈Region.ready md ops l,wpOp P ops Q i (fun a' w'=>S (l.setIfInBounds i true) w'∧go (l.setIfInBounds i true) a' w') a w
variable {S:Array Bool→World→Prop}
theorem A70:∀(m:Nat) (l:Array Bool) (a:Act) (w:World),runs P md ops Q S m l a w→wpAny P md ops Q m l a w
  | 0,_,_,_,h=>h
  | m+1,_,_,_,h=>⟨h.1,fun i hi=>wpOp_mono (fun a' w' h'=>A70 m _ a' w' h'.2) (h.2 i hi)⟩
theorem B17 {m:Nat} {l:Array Bool} {a:Act} {w:World} (h0:Region.ready md ops l≠[]) (h:∀i∈Region.ready md ops l,wpOp P ops Q i (fun a' w'=>S (l.setIfInBounds i true) w'∧runs P md ops Q S m (l.setIfInBounds i true) a' w') a w):runs P md ops Q S (m+1) l a w:=⟨fun e=>absurd e h0,h⟩
theorem BJ0 {i:Nat} {oi:Oper} {v:Value} {T:World→Prop} {Inv:Array Bool→Prop} (hi:ops[i]? =some oi) (hsel:∀(j:Nat) (o:Oper) cs b,ops[j]? =some o→o.op≠.select cs b)
    (hQ:∀c a w,Q (.panic c) (a.put oi.dst v) w→Q (.panic c) a w) (hInv:∀l j,Inv l→i∈Region.ready md ops l→j∈Region.ready md ops l→j≠i→Inv (l.setIfInBounds j true))
    (hT:∀l w,Inv l→S l w→T w) (hS:∀l w,S (l.setIfInBounds i true) w↔S l w):
    ∀(m:Nat) (l:Array Bool) (a:Act) (w:World),
      (∀j oj,ops[j]? =some oj→j≠i→l.getD j true=false→(∀e∈oj.after,Region.binds md e=true→e.on≠i)→oi.apart ops oj=true)→
      i∈Region.ready md ops l→Inv l→YieldsIf P ops T oi v a→S l w→
      runs P md ops Q S m (l.setIfInBounds i true) (a.put oi.dst v) w→runs P md ops Q S (m+1) l a w:=by
  intro m
  induction m with
  | zero=>
    intro l a w _ hr hI hy hs H
    refine⟨fun h=>(by rw[h] at hr;cases hr),fun j hj=>?_⟩
    by_cases hji:j=i
    · subst hji;exact hy.wpOp hi (hT _ _ hI hs) ⟨(hS _ _).2 hs,H⟩
    · have:=ready_mono hj hji
      rw[H.1] at this
      cases this
  | succ m ih=>
    intro l a w hfree hr hI hy hs H
    refine⟨fun h=>(by rw[h] at hr;cases hr),fun j hj=>?_⟩
    by_cases hji:j=i
    · subst hji;exact hy.wpOp hi (hT _ _ hI hs) ⟨(hS _ _).2 hs,H⟩
    have h1:=H.2 j (ready_mono hj hji)
    obtain⟨hun,oj,hoj,hall⟩:=mem_ready.1 hj
    have hnot:∀e∈oj.after,Region.binds md e=true→e.on≠i:=fun e he hb heq=>by
      have h1:=hall e he hb
      have h0:=(mem_ready.1 hr).1
      rw[heq] at h1
      rcases Nat.lt_or_ge i l.size with h'|h'
      · simp [h'] at h0 h1;rw[h0] at h1;cases h1
      · simp [Array.getElem?_eq_none h'] at h1
    have h2:=wpOp_putIf hoj (hfree j oj hoj hji hun hnot) (fun cs b=>hsel i oi cs b hi) (fun cs b=>hsel j oj cs b hoj) hQ hy h1
    refine wpOp_mono (fun a' w' h3=>?_) h2
    obtain⟨h4,h5,h6⟩:=h3
    rw[Array.setIfInBounds_comm _ _ (Ne.symm hji)] at h5 h6
    have h5':=(hS _ _).1 h5
    refine⟨h5',ih (l.setIfInBounds j true) a' w' (fun k ok hk hki hunk hno=>hfree k ok hk hki ?_ hno) (ready_mono hr (Ne.symm hji)) (hInv _ _ hI hr hj hji) h4 h5' h6⟩
    by_cases hjk:j=k
    · subst hjk;exact hun
    · rw[getD_set_ne true hjk] at hunk;exact hunk
end
/-- What waits for i, directly or not. -/
def waits (ops:Array Oper) (i:Nat):List Nat:=
  (List.range ops.size).foldl (fun W k=>bif (match ops[k]? with|some o=>o.after.any fun e=>Region.binds .any e&&(Nat.beq e.on i||W.contains e.on)|none=>false) then k::W else W) []
def blkW (ops:Array Oper) (l:Array Bool) (i st:Nat) (W:List Nat):Bool:=
  W.contains st&&!(W.contains i)&&W.all fun k=>!(l.getD k true)&&(match ops[k]? with|some o=>o.after.any fun e=>Region.binds .any e&&(Nat.beq e.on i||W.contains e.on)|none=>false)
theorem BP0 {ops:Array Oper} {l:Array Bool} {i st j:Nat} {W:List Nat} (h:blkW ops l i st W=true) (hi:i∈Region.ready .any ops l) (hj:j∈Region.ready .any ops l) (hji:j≠i):blkW ops (l.setIfInBounds j true) i st W=true:=by
  unfold blkW at *
  simp only[Bool.and_eq_true,List.all_eq_true,Bool.not_eq_true'] at h ⊢
  obtain⟨⟨h1,h2⟩,h3⟩:=h
  have hjW:j∉W:=fun hm=>by
    obtain⟨h4,h5⟩:=h3 j hm
    obtain⟨-,oj,hoj,hall⟩:=mem_ready.1 hj
    rw[hoj] at h5
    simp only[Array.any_eq_true,Bool.and_eq_true,Bool.or_eq_true,List.contains_eq_mem,decide_eq_true_eq] at h5
    obtain⟨x,hx,hb,he⟩:=h5
    have ht:=hall _ (Array.getElem_mem hx) hb
    have hun:l.getD oj.after[x].on true=false:=by
      rcases he with he|he
      · rw[Nat.eq_of_beq_eq_true he];exact(mem_ready.1 hi).1
      · exact(h3 _ he).1
    generalize oj.after[x].on=y at *
    rcases Nat.lt_or_ge y l.size with h'|h'
    · simp [h'] at hun ht;rw[hun] at ht;cases ht
    · simp [Array.getElem?_eq_none h'] at ht
  refine⟨⟨h1,h2⟩,fun k hk=>⟨?_,(h3 k hk).2⟩⟩
  rw[getD_set_ne true (fun e=>hjW (by rw[e];exact hk))]
  exact(h3 k hk).1
/-- Till st comes up the one is held, from then on the other. -/
def phS (G:Ctx) (st:Nat) (H1 Hs:List Ent) (l:Array Bool) (w:World):Prop:=bif l.getD st true then Holds G Hs w else Holds G H1 w
theorem Bu9 {G:Ctx} {st i:Nat} {H1 Hs:List Ent} (h:i≠st) (l:Array Bool) (w:World):phS G st H1 Hs (l.setIfInBounds i true) w↔phS G st H1 Hs l w:=by unfold phS;rw[getD_set_ne true h]
section
variable {P:Program} {G:Ctx} {n:Sz} {ops:Array Oper} {Q:Post} {s:Fm} {H H1 Hs:List Ent} {o:Oper} {fuel st:Nat} {done:List Nat}
def SP (P:Program) (G:Ctx) (n:Sz) (ops:Array Oper) (Q:Post) (st:Nat) (H1 Hs:List Ent) (fuel:Nat) (done:List Nat) (s:Fm) (H:List Ent):Prop:=
  (∀w,Holds G H w→Holds G H1 w)→(mkL ops.size done).getD st true=false→∀a w,Fr n s a→Holds G H w→runs P .any ops (np (lift G n Q)) (phS G st H1 Hs) fuel (mkL ops.size done) a w
def SPT (P:Program) (G:Ctx) (n:Sz) (ops:Array Oper) (Q:Post) (st:Nat) (H1 Hs:List Ent) (fuel:Nat) (done:List Nat) (s:Fm) (H:List Ent) (_k:Nat):Prop:=SP P G n ops Q st H1 Hs fuel done s H
def spQ (P:Program) (G:Ctx) (n:Sz) (ops:Array Oper) (Q:Post) (st:Nat) (H1 Hs:List Ent) (fuel:Nat) (done:List Nat):Post
  | .normal,s,H=>(∀w,Holds G H w→Holds G H1 w)∧SP P G n ops Q st H1 Hs fuel done s H
  | _,_,_=>False
theorem AX9 {id:Nat} {l:List Oper} [h:Wide P] (st:Nat) (H1 Hs:List Ent) (hs:∀w,Holds G H w→Holds G H1 w) (hst:Nat.blt st l.length=true) (hk:SPT P G n l.toArray Q st H1 Hs l.length [] s H 0):SW P G n (.region id l.toArray true) Q s H:=fun a w ha hw=>by
  refine Code.wp_mono BQ1 (wp_region_any h.here (A70 (S:=phS G st H1 Hs) _ _ _ _ ?_))
  have h9:st<l.length:=by simpa [Nat.blt_eq] using hst
  have:=hk hs (by simp [mkL,h9]) a _ ha hw.drew
  rw[BG8] at this
  simpa using this
theorem Ap2 {k:Nat} (hs:∀w,Holds G H w→Holds G H1 w) (h:SPT P G n ops Q st H1 Hs fuel done s H k):AtQ (spQ P G n ops Q st H1 Hs fuel done) .normal s H:=⟨hs,h⟩
theorem Aj6 {k m:Nat} [hm:NSucc k m] (_hk:done.contains k=true) (h:SPT P G n ops Q st H1 Hs fuel done s H m):SPT P G n ops Q st H1 Hs fuel done s H k:=h
theorem AS9 {k m:Nat} [hm:NSucc k m] (_hk:Nat.blt k ops.size=true) (h:SPT P G n ops Q st H1 Hs fuel done s H m):SPT P G n ops Q st H1 Hs fuel done s H k:=h
/-- What st waits for yields by reading what is held till then. -/
theorem AT1 {k m d:Nat} [hm:NSucc k m] (ho:ops[k]? =some o) (hg:o.guard=none) (hd:o.dst=some d) (h2:Nat.blt d n.n=true) (hns:Region.noSelect ops=true) (hr:(Region.ready .any ops (mkL ops.size done)).contains k=true) (hf:Region.free .any ops (mkL ops.size done) k=true) (hb:blkW ops (mkL ops.size done) k st (waits ops k)=true)
    (h:SY P G n H1 o s fun v=>SPT P G n ops Q st H1 Hs fuel (k::done) ((d,v)::s) H m):SPT P G n ops Q st H1 Hs (fuel+1) done s H k:=fun hs hst a w ha hw=>by
  obtain⟨v,hy,hk⟩:=h
  have hks:k≠st:=fun e=>by
    subst e
    unfold blkW at hb
    simp only[Bool.and_eq_true,Bool.not_eq_true'] at hb
    rw[hb.1.1] at hb
    cases hb.1.2
  have hsl:∀l w,phS G st H1 Hs (l.setIfInBounds k true) w↔phS G st H1 Hs l w:=Bu9 hks
  refine BJ0 (T:=Holds G H1) (Inv:=fun l=>blkW ops l k st (waits ops k)=true) ho (Region.noSelect_spec hns) (fun _ _ _ e=>e) (fun l j h1 h2 h3 h4=>BP0 h1 h2 h3 h4) (fun l w h1 h2=>?_) hsl fuel _ a w (Region.free_spec ho hf) (by simpa using hr) hb (.inl ⟨Want.wanted (.inl hg) ha,fun w' hw'=>hy a w' ha hw'⟩) ?_ ?_
  · unfold blkW at h1
    simp only[Bool.and_eq_true,List.all_eq_true,Bool.not_eq_true',List.contains_eq_mem,decide_eq_true_eq] at h1
    have:=(h1.2 st h1.1.1).1
    unfold phS at h2
    rw[this] at h2
    exact h2
  · unfold phS;rw[hst];exact hs w hw
  · rw[AN7]
    refine hk hs ?_ _ w ?_ hw
    · rw[←AN7,getD_set_ne true hks];exact hst
    · rw[←updd hd v]
      exact ha.put _ _ (okd hd h2)
theorem Ac7 {Q:Exit→Act→World→Prop}:∀(m:Nat) (l:Array Bool) (a:Act) (w:World),l.getD st true=true→wpAnyH P .any ops Q (Holds G Hs) m l a w→runs P .any ops Q (phS G st H1 Hs) m l a w
  | 0,_,_,_,_,h=>h
  | m+1,l,_,_,hl,h=>⟨h.1,fun i hi=>wpOp_mono (fun a' w' h'=>by
      have hl':(l.setIfInBounds i true).getD st true=true:=by
        by_cases e:i=st
        · subst e
          by_cases hz:i<l.size
          · simp [hz]
          · simp [hz]
        · rw[getD_set_ne true e];exact hl
      refine⟨?_,Ac7 m _ a' w' hl' h'.2⟩
      unfold phS
      rw[hl']
      exact h'.1) (h.2 i hi)⟩
def SPA (P:Program) (G:Ctx) (n:Sz) (ops:Array Oper) (Q:Post) (st:Nat) (H1 Hs:List Ent) (fuel:Nat) (done:List Nat) (s:Fm) (H:List Ent) (k:Nat):Prop:=
  ∀i,k≤i→i∈Region.ready .any ops (mkL ops.size done)→∃o,ops[i]? =some o∧((i≠st∧SL P G n ops (spQ P G n ops Q st H1 Hs fuel (i::done)) [o] s H)∨(i=st∧SL P G n ops (soQ P G n ops Q Hs fuel (i::done)) [o] s H))
theorem AV6 {k:Nat} (hk:Nat.ble ops.size k=true):SPA P G n ops Q st H1 Hs fuel done s H k:=fun i hi hr=>by
  have:=(mem_ready.1 hr).2
  obtain⟨o,ho,-⟩:=this
  have h1:=Nat.le_of_ble_eq_true hk
  rw[Array.getElem?_eq_none (by omega)] at ho
  cases ho
theorem Ab2 {k m:Nat} [hm:NSucc k m] (hr:(Region.ready .any ops (mkL ops.size done)).contains k=false) (h:SPA P G n ops Q st H1 Hs fuel done s H m):SPA P G n ops Q st H1 Hs fuel done s H k:=fun i hi hi2=>by
  rcases Nat.eq_or_lt_of_le hi with rfl|hlt
  · rw[List.contains_eq_mem,decide_eq_false_iff_not] at hr
    exact absurd hi2 hr
  · exact h i (by rw[hm.here];omega) hi2
theorem Ap8 {k m:Nat} [hm:NSucc k m] (ho:ops[k]? =some o) (hks:Nat.beq k st=false) (h1:SL P G n ops (spQ P G n ops Q st H1 Hs fuel (k::done)) [o] s H) (h:SPA P G n ops Q st H1 Hs fuel done s H m):SPA P G n ops Q st H1 Hs fuel done s H k:=fun i hi hi2=>by
  rcases Nat.eq_or_lt_of_le hi with rfl|hlt
  · exact⟨o,ho,.inl ⟨fun e=>(by subst e;rw[Nat.beq_refl] at hks;cases hks),h1⟩⟩
  · exact h i (by rw[hm.here];omega) hi2
theorem Ac8 {k m:Nat} [hm:NSucc k m] (ho:ops[k]? =some o) (hks:Nat.beq k st=true) (h1:SL P G n ops (soQ P G n ops Q Hs fuel (k::done)) [o] s H) (h:SPA P G n ops Q st H1 Hs fuel done s H m):SPA P G n ops Q st H1 Hs fuel done s H k:=fun i hi hi2=>by
  rcases Nat.eq_or_lt_of_le hi with rfl|hlt
  · exact⟨o,ho,.inr ⟨Nat.eq_of_beq_eq_true hks,h1⟩⟩
  · exact h i (by rw[hm.here];omega) hi2
theorem AX2 {k:Nat} (hr:(Region.ready .any ops (mkL ops.size done)).isEmpty=false) (h:SPA P G n ops Q st H1 Hs fuel done s H 0):SPT P G n ops Q st H1 Hs (fuel+1) done s H k:=fun hs hst a w ha hw=>by
  refine B17 (fun e=>by rw[e] at hr;cases hr) fun i hi=>?_
  obtain⟨o,ho,hsl⟩:=h i (Nat.zero_le _) hi
  have go:∀Q':Post,(∀e s H,e≠.normal→¬Q' e s H)→(∀a w s' H',Fr n s' a→Holds G H' w→Q' .normal s' H'→phS G st H1 Hs (mkL ops.size (i::done)) w∧runs P .any ops (np (lift G n Q)) (phS G st H1 Hs) fuel (mkL ops.size (i::done)) a w)→SL P G n ops Q' [o] s H→wpOp P ops (np (lift G n Q)) i (fun a' w'=>phS G st H1 Hs ((mkL ops.size done).setIfInBounds i true) w'∧runs P .any ops (np (lift G n Q)) (phS G st H1 Hs) fuel ((mkL ops.size done).setIfInBounds i true) a' w') a w:=by
    intro Q' hno hq hsl
    have h1:=hsl a w ha hw
    rw[AN7]
    unfold wpList at h1
    unfold wpOp
    simp only[ho]
    have hK:∀a w,wpList P ops (lift G n Q') [] a w→phS G st H1 Hs (mkL ops.size (i::done)) w∧runs P .any ops (np (lift G n Q)) (phS G st H1 Hs) fuel (mkL ops.size (i::done)) a w:=fun a w hq'=>by
      obtain⟨s',H',ha',hw',h2⟩:=hq'
      exact hq a w s' H' ha' hw' h2
    split
    · rename_i hwn
      rw[if_pos hwn] at h1
      rcases h1 with h1|⟨-,a1,w1,s1,H1,-,-,hf⟩
      · exact .inl (Oper.wp_imp hK (fun c a w ⟨_,_,_,_,hq⟩=>hno _ _ _ (by simp) hq) (fun a w ⟨_,_,_,_,hq⟩=>hno _ _ _ (by simp) hq) h1)
      · exact(hno _ _ _ (by simp) hf).elim
    · rename_i hwn
      rw[if_neg hwn] at h1
      exact hK _ _ h1
  rcases hsl with ⟨hne,hsl⟩|⟨he,hsl⟩
  · refine go _ (fun e s H he hq=>?_) (fun a w s' H' ha' hw' hq=>?_) hsl
    · cases e<;>(first|exact he rfl|exact hq)
    · obtain⟨h2,h3⟩:=hq
      have hst':(mkL ops.size (i::done)).getD st true=false:=by rw[←AN7,getD_set_ne true hne];exact hst
      refine⟨?_,h3 h2 hst' a w ha' hw'⟩
      unfold phS
      rw[hst']
      exact h2 w hw'
  · subst he
    have hst':(mkL ops.size (i::done)).getD i true=true:=by
      rw[←AN7]
      by_cases hz:i<(mkL ops.size done).size
      · simp [hz]
      · simp [hz]
    refine go _ (fun e s H he hq=>?_) (fun a w s' H' ha' hw' hq=>?_) hsl
    · cases e<;>(first|exact he rfl|exact hq)
    · obtain⟨h2,h3⟩:=hq
      refine⟨?_,Ac7 _ _ _ _ hst' (h3 h2 a w ha' hw')⟩
      unfold phS
      rw[hst']
      exact h2 w hw'
theorem An8 {k:Nat} (h:SPT P G n ops Q st H1 Hs fuel done s H k):SPT P G n ops Q st H1 Hs fuel done s H k:=h
theorem Ak3 {k:Nat} (h:SPA P G n ops Q st H1 Hs fuel done s H k):SPA P G n ops Q st H1 Hs fuel done s H k:=h
theorem A71 (h:AtQ (spQ P G n ops Q st H1 Hs fuel done) .normal s H):AtQ (spQ P G n ops Q st H1 Hs fuel done) .normal s H:=h
end
end Go.Sx
namespace Go.Sx
open Go Go.RowKit Go.Fw
def AI1 (e:TypeId) (cs:List Value):Obj:= .cells cs.toArray e (cs.length,cs.length+1)
theorem A42 (e:TypeId) (xs:List Int) (m:Nat):AJ1 e xs m=AI1 e (octs xs++List.replicate m (Value.int .u8 0)):=by
  unfold AJ1 AI1
  simp [octs]
/-- A row of bytes: what is held, where it lies, how long it is. -/
inductive BufE (e:TypeId):Ent→Option Addr→Nat→Nat→List Int→Prop where
  | own (a:Option Addr) (n c:Nat) (xs:List Int):BufE e (.own e 1 a n c (octs xs)) a n c xs
  | obj (g n c:Nat) (xs:List Int) (tl:List Value) (hn:n=xs.length) (hc:c=n+tl.length) (hm:c≤maxLen):BufE e (.obj g (AI1 e (octs xs++tl))) (some ⟨g,0,none⟩) n c xs
class PickE (H:List Ent) (X:Ent) (H':outParam (List Ent)):Prop where
  here:Pick X H H'
instance (priority:=low) CJ8 {H H':List Ent} {X x:Ent} [h:PickE H X H']:PickE (x::H) X (x::H'):=⟨.there h.here⟩
instance CJ6 {H:List Ent} {X:Ent}:PickE (X::H) X H:=⟨.here _⟩
section
variable {P:Program} {G:Ctx} {n:Sz} {ops:Array Oper} {Q:Post} {s:Fm} {H:List Ent} {o:Oper} {rest:List Oper}
theorem As6 {w:World} {g:Nat} {e:TypeId} {cs:List Value} (h:w.heap[g]? =some (AI1 e cs)) (k:Nat):w.cell? ⟨g,k,none⟩=cs[k]? :=by
  unfold World.cell?
  simp only[h,AI1]
  simp
theorem BZ7 {w:World} {g:Nat} {e:TypeId} {cs:List Value} (h:w.heap[g]? =some (AI1 e cs)) (k:Nat) (hk:k<cs.length):w.frozen? ⟨g,k,none⟩=false:=by
  unfold World.frozen?
  simp only[h,AI1]
  have:¬cs.length≤k:=by omega
  simp [this]
theorem BufE.rd {e:TypeId} {X:Ent} {a:Option Addr} {m c:Nat} {xs:List Int} (h:BufE e X a m c xs) (H:List Ent):RdC G (X::H) a (octs xs):=by
  cases h with
  | own=>exact rdOwn
  | obj g n c xs tl hn hc hm=>
    refine⟨fun w hw=>?_⟩
    have h:=(hw.ok _ (List.mem_cons_self (a:=Ent.obj g (AI1 e (octs xs++tl))))).2
    rcases A67 (show w.heap[g]? =some (.cells (octs xs++tl).toArray e ((octs xs++tl).length,(octs xs++tl).length+1)) from h) with h2|⟨b,off,e1,h3,h4⟩
    · exact .inl (List.append_eq_nil_iff.1 h2).1
    · refine .inr ⟨b,off,e1,h3,fun i hi=>?_⟩
      rw[h4 i (by rw[List.length_append];omega),List.getElem?_append_left hi]
/-- One byte more. -/
theorem BT1 {x y:Operand} {t e bytes d:Nat} {a a2:Option Addr} {len c c2:Nat} {xs:List Int} {v:Int} {X:Ent} {H':List Ent} (hX:BufE e X a len c xs) (hg:o.guard=none) (ho:o.op= .call {callee:= .builtin .append,args:=#[x,y],argTypes:=#[t,t]})
    [hT:SliceT P t e 1 bytes] (hx:ev s x=some (.slice a len c)) [hp:PickE H X H'] (hy:ev s y=some (.slice a2 1 c2)) [hr:RdC G H a2 [.int .u8 v]] (hb:(len+1) * bytes≤140737488355328) (h1d:o.dst=some d) (h2d:Nat.blt d n.n=true)
    (h:∀X' a' c',BufE e X' a' (len+1) c' (xs++[v])→SL P G n ops Q rest ((d,.slice a' (len+1) c')::s) (X'::H')):SL P G n ops Q (o::rest) s H:=by
  have hoc:octs (xs++[v])=octs xs++[.int .u8 v]:=by simp [octs]
  cases hX with
  | own=>
    haveI:PickOwn H a e 1 len c (octs xs) H':=⟨hp.here⟩
    refine R6 (news:=[.int .u8 v]) hg ho hx hy rfl rfl hb h1d h2d fun a' c'=>?_
    rw[←hoc]
    exact h _ a' c' (.own a' (len+1) c' (xs++[v]))
  | obj g n' c xs tl hn hc hm=>
    intro act w ha hw
    have hd:=okd (n:=n) h1d h2d
    simp only[←updd h1d] at h
    replace hg:Want ops o s:= .inl hg
    have hwp:=hw.pick hp.here
    obtain⟨hB,hh⟩:G.B≤g∧w.heap[g]? =some (AI1 e (octs xs++tl)):=hwp.ok _ List.mem_cons_self
    obtain⟨hu,hsz,hby,z,hz,hzs⟩:=hT.here
    obtain⟨i0,hi0,hz0,hz1,hz2⟩:=info_parts hz
    obtain⟨b2,off2,rfl,hc2⟩:=At.someAt (hr.here w hw) (by simp)
    have hlen:len+1≤140737488355328:=Nat.le_trans (Nat.le_mul_of_pos_right _ hby) hb
    have hol:(octs xs).length=len:=by rw[hn];simp [octs]
    have hnews:∀j u,[Value.int .u8 v][j]? =some u→w.cell? ((⟨b2,off2,none⟩:Addr).add j)=some u:=fun j u hj=>by
      rw[Addr.add_mid];exact(hc2 j (List.getElem?_eq_some_iff.1 hj).1).trans hj
    obtain⟨hap,hapH⟩:=List.pairwise_cons.1 hwp.apart
    refine wpList_step fun K hK=>?_
    rw[if_pos (hg.wanted ha)]
    unfold Oper.wp execOp
    simp only[ho,resolve,invoke,builtin,Sem.run_bind,Sem.run_pure,Result.andThen_ok,List.map_toArray,List.map_cons,List.map_nil,ha.ev hx,ha.ev hy]
    by_cases hroom:len+1≤c
    · cases tl with
      | nil=>simp at hc;omega
      | cons u tl=>
        have hcl:(octs xs++u::tl).length=c:=by rw[List.length_append,hol,hc]
        have hcell:∀j,j<[Value.int .u8 v].length→(w.cell? ⟨g,0+len * i0.size+j,none⟩).isSome=true:=fun j hj=>by
          simp only[List.length_singleton] at hj
          rw[hz1,As6 hh,List.getElem?_eq_getElem (by omega)];rfl
        have hfz:∀j,j<[Value.int .u8 v].length→w.frozen? ⟨g,0+len * i0.size+j,none⟩=false:=fun j hj=>by
          simp only[List.length_singleton] at hj
          rw[hz1]
          exact BZ7 hh _ (by omega)
        have hrun:=run_append_room_cells (P:=P) w t o.type e i0 hu hi0 g 0 len c ⟨b2,off2,none⟩ 1 c2 [.int .u8 v] (by rw[hz1];rfl) hnews (by intro u hu;simp at hu;subst hu;rfl) hroom hcell hfz
        simp only[hrun,Result.andThen_ok]
        have hset:w.setCells g (0+len * i0.size) [.int .u8 v]=w.setCell ⟨g,len,none⟩ (.int .u8 v):=by
          rw[hz1,show 0+len * 1=len from by omega];rfl
        rw[hset]
        have hrow:(w.setCell ⟨g,len,none⟩ (.int .u8 v)).heap[g]? =some (AI1 e (octs (xs++[v])++tl)):=by
          unfold World.setCell
          simp only[Array.getElem?_modify,if_true,hh,Option.map_some,AI1]
          congr 1
          simp only[Option.isSome_none,Bool.false_eq_true,if_false]
          rw[List.setIfInBounds_toArray]
          have e1:(octs xs++u::tl).set len (.int .u8 v)=octs (xs++[v])++tl:=by
            rw[List.set_append_right _ _ (by omega),hol,Nat.sub_self,hoc]
            simp
          rw[e1]
          have e2:(octs xs++u::tl).length=(octs (xs++[v])++tl).length:=by rw[hoc];simp
          rw[e2]
        have ho2:∀j,j≠g→(w.setCell ⟨g,len,none⟩ (.int .u8 v)).heap[j]? =w.heap[j]? :=fun j hj=>Below.heap_setCell w _ _ j hj
        have hw':Holds G (.obj g (AI1 e (octs (xs++[v])++tl))::H') (w.setCell ⟨g,len,none⟩ (.int .u8 v)):=by
          refine⟨hwp.below.setCell hB _,by simpa [World.setCell] using hwp.base,fun z hz=>?_,List.pairwise_cons.2 ⟨fun y hy k hk=>hap y hy k hk,hapH⟩⟩
          rcases List.mem_cons.1 hz with rfl|hz
          · exact⟨hB,hrow⟩
          · exact Ent.ok_of (hwp.ok z (List.mem_cons_of_mem _ hz)) fun j hj=>ho2 j (fun e=>hap z hz g rfl (e▸hj))
        exact hK _ _ (h _ (some ⟨g,0,none⟩) c (.obj g (len+1) c (xs++[v]) tl (by simp;omega) (by simp at hc;omega) hm) _ _ (ha.put _ _ hd) hw')
    · obtain⟨v',w',hrun,r1,r2⟩:=run_append_arg_grows (P:=P) w t o.type e i0 z 1 bytes hu hi0 hz0 hz1 hz2 hzs (by decide) ⟨g,0,none⟩ len c (octs xs) (by omega) (fun j u hj=>by
          rw[Addr.add_mid,Nat.zero_add,As6 hh,List.getElem?_append_left (List.getElem?_eq_some_iff.1 hj).1];exact hj) ⟨b2,off2,none⟩ 1 c2 [.int .u8 v] rfl hnews (by omega) (by unfold maxLen;omega) hb
      simp only[hrun,Result.andThen_ok]
      rcases r1.2 with ⟨-,h0⟩|⟨g1,cap,cur,rfl,hbg,hcells,hnc,hcm,hcs,htake⟩
      · omega
      · have hw1:Holds G H' w':=hwp.drop.stepped none r2 (fun k hk=>by cases hk) (fun x hx k hk e=>by cases e)
        refine hK _ _ (h _ (some ⟨g1,0,none⟩) cap (.own _ (len+1) cap (xs++[v])) _ _ (ha.put _ _ hd) ?_)
        refine⟨hw1.below,hw1.base,fun x hx=>?_,List.pairwise_cons.2 ⟨fun y hy k hk=>?_,hw1.apart⟩⟩
        · rcases List.mem_cons.1 hx with rfl|hx
          · rw[hoc]
            exact⟨r1.1,.inr ⟨g1,cap,cur,rfl,Nat.le_trans hwp.base hbg,hcells,hnc,hcm,hcs,htake⟩⟩
          · exact hw1.ok x hx
        · intro hyk
          have e1:k=g1:=by simp only[Ent.key,Value.ownBlock,Option.some.injEq] at hk;exact hk.symm
          have:=(Ent.ok_lt (hwp.drop.ok y hy) hyk).2
          omega
/-- A text made to a row of bytes. -/
theorem BufE.conv {e:TypeId} {g c:Nat} (b:ByteArray) (hc:b.size≤c) (hm:c≤maxLen):BufE e (.obj g (AJ1 e (nums b) (c-b.size))) (some ⟨g,0,none⟩) b.size c (nums b):=by
  rw[A42]
  exact .obj g b.size c (nums b) _ (nums_length b).symm (by rw[List.length_replicate];omega) hm
theorem Bw4 {src dst e bytes d:Nat} {x:Operand} {b:ByteArray} (hg:o.guard=none) (ho:o.op= .convert src dst x) [hs:StrT P src] [hT:SliceT P dst e 1 bytes] [he:IntT P e .u8] (hx:ev s x=some (.string b)) (hb:b.size≤140737488355328) (h1d:o.dst=some d) (h2d:Nat.blt d n.n=true)
    (hk:∀X a c,BufE e X a b.size c (nums b)→SL P G n ops Q rest ((d,.slice a b.size c)::s) (X::H)):SL P G n ops Q (o::rest) s H:=by
  obtain⟨hu,-,-,-⟩:=hT.here
  have hd:=okd (n:=n) h1d h2d
  simp only[←updd h1d] at hk
  refine AC4 (.inl hg) fun act w ha hw K hK=>?_
  have hcap:b.size≤grownCap w b.size 0 e:=grownCap_ge w b.size 0 e
  have hcm:grownCap w b.size 0 e≤maxLen:=grownCap_le_maxLen w b.size 0 e (by unfold maxLen;omega)
  have hrun:=run_bytes_of_string (P:=P) w src dst e b hs.here hu he.here
  rw[BB7 b _ hcap] at hrun
  unfold Oper.wp execOp
  simp only[ho,ha.ev hx,Sem.run_bind,hrun,Result.andThen_ok]
  have hw2:Holds G (.obj w.heap.size (AJ1 e (nums b) (grownCap w b.size 0 e-b.size))::H) (w.drew.alloc (AJ1 e (nums b) (grownCap w b.size 0 e-b.size))):=by
    refine hw.obj (by simp [World.alloc,World.drew,-World.alloc_eq,-World.drew_eq]) (by simp [World.alloc,World.drew,-World.alloc_eq,-World.drew_eq]) (fun k hk=>?_) rfl rfl rfl
    exact Below.heap_alloc w.drew _ k hk
  exact hK _ _ (hk _ _ _ (BufE.conv b hcap hcm) _ _ (ha.put _ _ hd) hw2)
end
end Go.Sx
end
namespace Go.Proofs.YtmmnimagbnlcmaaGreatDoor
open Go Go.RowKit Go.Fw Go.Sx
set_option maxRecDepth 100000
section
attribute [local irreducible] SW SL SQ AtQ SV SC BB LD PK Yields
def Ae1 (x:Int):Bool:=decide ((0≤x∧x≤256)∨(16777216≤x∧x<33554432))
def penB (fl fo ba:Int):Bool:=decide (0≤fl∧fl≤255)&&(Ae1 fo&&Ae1 ba)
theorem AM1 (fl fo ba:Int):penB fl fo ba=true↔(0≤fl∧fl≤255)∧((0≤fo∧fo≤256)∨(16777216≤fo∧fo<33554432))∧((0≤ba∧ba≤256)∨(16777216≤ba∧ba<33554432)):=by
  simp only[penB,Ae1,Bool.and_eq_true,decide_eq_true_eq]
abbrev penV (fl fo ba:Int):Value:= .agg [.int .i64 fl,.int .i64 fo,.int .i64 ba].toArray
theorem Bg5 (G:Ctx) (H:List Ent) (x:Int):SV Tryz.prog G 114 [.int .i64 x] H (.bool (Ae1 x)):=by
  refine M5 Tryz.func114 rfl rfl rfl rfl rfl ?_
  repeat' (first|(apply F3;first|(apply C8;refine A8 ?_)|(apply C9;refine D8 rfl rfl ?_)|(apply E5;refine F5 rfl rfl rfl ?_;refine F7 rfl ?_)|(apply D6;refine D9 rfl rfl ?_)|(apply I6;refine I9 rfl rfl ?_;first|(apply Q9;refine Q8 rfl ?_)|(apply O1;refine O3 rfl ?_))|(apply I1;first|(refine J9 rfl rfl rfl rfl ?_;first|(apply I7)|(apply I5)|(apply X9)|(apply E9<;>intro hq<;>(try (exfalso;omega)))|(apply O8<;>intro hq<;>(try (exfalso;omega))))|refine o5 rfl rfl rfl rfl rfl rfl ?_))|(apply D7)|(apply H7)|(apply A7)|(apply D5))
  all_goals (refine M3 (by (exact .inr rfl)) rfl N7 ?_;first|exact Bg2 (by omega)|exact Bn6 (by omega)|exact Aj1 (by omega))
attribute [irreducible] Ae1
theorem AC3 (G:Ctx) (H:List Ent) (fl fo ba:Int):SV Tryz.prog G 61 [penV fl fo ba] H (.int .i64 (if penB fl fo ba=true then 0 else 4)):=by
  refine M5 Tryz.func61 rfl rfl rfl rfl rfl ?_
  repeat' (first|(apply F3;first|(apply C8;refine A8 ?_)|(apply C9;refine D8 rfl rfl ?_)|(apply E5;refine F5 rfl rfl rfl ?_;refine F7 rfl ?_)|(apply F4;refine F8 rfl rfl ?_;refine G6 rfl ?_)|(apply D6;refine D9 rfl rfl ?_)|(apply I6;refine I9 rfl rfl ?_;first|(apply Q9;refine Q8 rfl ?_)|(apply O1;refine O3 rfl ?_))|(apply G7;refine G8 (E8 rfl rfl) rfl ?_)|(apply Y0;refine Z8 (Z7 rfl rfl rfl) rfl ?_)|(apply H6;refine F9 rfl rfl rfl (Bg5 _ _ _) rfl rfl ?_)|(apply K9;refine O5 rfl rfl rfl rfl rfl rfl (fun _=>?_))|(apply I1;refine J9 rfl rfl rfl rfl ?_;first|(apply I7)|(apply X9)|(apply O8<;>intro hq<;>(try (exfalso;omega)))|(apply Aj5<;>intro hq)))|(apply D7)|(apply G9)|(apply H7)|(apply A7)|(refine G5 rfl ?_;first|(apply I7)|(apply AF0<;>intro hq))|(apply D5)|(apply J4))
  all_goals (refine M3 (by (exact .inr rfl)) rfl N7 ?_;first|exact B82 (by simp [penB, *];omega) rfl|exact CB6 (by simp [penB, *];try omega) rfl)
def AC5 (k:Nat):Nat:=[0,1,2,4,8,16,0,32,64,128].getD k 0
theorem BB9 (k:Nat) (hk:k<10):(ints [0,1,2,4,8,16,0,32,64,128])[k]? =some (.int .i64 (AC5 k)):=by
  match k,hk with
  | 0,_|1,_|2,_|3,_|4,_|5,_|6,_|7,_|8,_|9,_=>rfl
theorem Ao0 (G:Ctx) (H:List Ent) (k:Nat) (hk:k<10):SV Tryz.prog G 121 [.int .i64 k] H (.int .i64 (AC5 k)):=by
  have hc:=BB9 k hk
  refine M5 Tryz.func121 rfl rfl rfl rfl rfl ?_
  repeat' (first|(apply F3;first|(apply C8;refine A8 ?_)|(apply C9;refine D8 rfl rfl ?_)|(apply D6;refine D9 rfl rfl ?_)|(apply P5;refine R7 (O6 rfl rfl rfl) rfl ?_)|(apply U8;refine AB1 rfl (AK8 rfl rfl rfl (by omega) (by omega) hc) rfl rfl ?_))|(apply D7)|(apply H7)|(apply A7)|(apply D5))
  refine M3 (by (exact .inr rfl)) rfl N7 ?_
  rfl
def q8 (c b:Int):List Int:=if c≤8 then [b+c-1] else if c≤16 then [b+60+c-9] else if c≤256 then [b+8,5,c-1] else [b+8,2,c / 65536 % 256,c / 256 % 256,c % 256]
theorem Bl8 (G:Ctx) (H:List Ent) (c b:Int) (h1:0≤c) (h2:c<33554432) (h3:0≤b) (h4:b≤100):SC Tryz.prog G 122 [.int .i64 c,.int .i64 b] H fun v H'=>∃a,v= .slice a (q8 c b).length (q8 c b).length∧H'= .own 3 1 a (q8 c b).length (q8 c b).length (ints (q8 c b))::H:=by
  refine J3 Tryz.func122 rfl rfl rfl rfl rfl ?_
  repeat' (first|(apply F3;first|(apply C8;refine A8 ?_)|(apply C9;refine D8 rfl rfl ?_)|(apply E5;refine F5 rfl rfl rfl ?_;first|(apply M0;refine L9 ⟨by omega,by omega⟩ ?_)|(apply y9;refine AA2 ⟨by omega,by omega⟩ ?_)|(apply AW4;refine Aq0 rfl rfl (by omega) (by omega) ?_)|(apply BR0;refine BQ0 rfl rfl rfl ?_)|refine F7 rfl ?_)|(apply D6;refine D9 rfl rfl ?_)|(apply V8;refine M7 rfl rfl rfl rfl rfl rfl rfl rfl rfl rfl (fun _=>?_)))|(apply D7)|(apply G9)|(apply H7)|(apply F6)|(apply A7)|(refine G5 rfl ?_;apply E9<;>intro hq<;>(try (exfalso;omega)))|(apply D5)|(apply J4)|(apply J2)|(apply U1))
  all_goals
    refine AG7 (_) (by (exact .inr rfl)) rfl N7 ?_
    unfold q8
    simp only[*,if_true,if_false]
    exact⟨_,rfl,rfl⟩
end
section
set_option maxHeartbeats 1000000
attribute [local irreducible] SW SL SQ AtQ SV SC BB LD PK Yields SO SOT SOA SY
theorem B09 (b:ByteArray) (i:Nat):0≤(nums b).getD i 0∧(nums b).getD i 0≤255:=by
  rcases Nat.lt_or_ge i (nums b).length with h|h
  · rw[List.getD_eq_getElem?_getD,List.getElem?_eq_getElem h];exact AD5 b _ (List.getElem_mem h)
  · rw[List.getD_eq_getElem?_getD,List.getElem?_eq_none h];exact⟨by decide,by decide⟩
end
section
open Go.RowKit Go.Fw
def AU5 (xs:List ByteArray) (y:ByteArray) (k:Nat):Prop:=∀j,j<k→¬y=xs.getD j ByteArray.empty
def AA8 (xs:List ByteArray) (y:ByteArray):Bool:=xs.any (fun x=>decide (x=y))
def AB9 (xs:List ByteArray) (y:ByteArray):Int:=if AA8 xs y then (xs.findIdx (fun x=>decide (x=y)):Nat) else-1
theorem AL3 (xs:List ByteArray) (y:ByteArray):AA8 xs y=true↔y∈xs:=by
  unfold AA8
  rw[List.any_eq_true]
  constructor
  · rintro ⟨x,hx,e⟩
    rw[←of_decide_eq_true e];exact hx
  · intro h
    exact⟨y,h,by simp⟩
theorem Ab0 (xs:List ByteArray) (y:ByteArray) (k:Nat) (h:AU5 xs y k) (he:y=xs.getD k ByteArray.empty) (hk:k<xs.length):AB9 xs y=k:=by
  have e:xs.getD k ByteArray.empty=xs[k]:=by simp [List.getD,List.getElem?_eq_getElem hk]
  unfold AB9
  rw[if_pos ((AL3 xs y).2 (by rw[he,e];exact List.getElem_mem hk))]
  congr 1
  rw[List.findIdx_eq hk]
  refine⟨by rw[he,e];simp,fun j hj=>?_⟩
  have:=h j hj
  simp only[List.getD,List.getElem?_eq_getElem (show j<xs.length by omega),Option.getD_some] at this
  simpa using fun h'=>this h'.symm
theorem A81 (xs:List ByteArray) (y:ByteArray) (h:AU5 xs y xs.length):AB9 xs y= -1:=by
  unfold AB9
  rw[if_neg]
  intro hm
  obtain⟨j,hj,e⟩:=List.getElem_of_mem ((AL3 xs y).1 hm)
  refine h j hj ?_
  simp [List.getD,List.getElem?_eq_getElem hj,e]
set_option maxRecDepth 100000 in
set_option maxHeartbeats 400000 in
theorem BA4 (xs:List ByteArray) (y:ByteArray) (a1:Option Addr) (n1 c1:Nat) (w:World) (hn1:n1=xs.length) (hm1:xs.length≤maxLen) (h1:At w a1 (strs xs)):
    Calls Tryz.prog 142 #[.slice a1 n1 c1,.string y] w fun e w'=>e= .returned (.int .i64 (AB9 xs y))∧Below w.heap.size w w':=by
  have Hn1:=Lib.hid hn1
  rw[←hn1] at hm1
  unfold maxLen at hm1
  clear hn1
  go_enter Tryz.func142,Tryz.ntmps142
  go_wp2
  go_loop [8] (fun i=>∃k:Nat,k≤n1∧i= .int .i64 k∧AU5 xs y k) (fun i=>n1-(intOf i).toNat)
  case atStart=>exact⟨0,Nat.zero_le _,rfl,fun j hj=>by omega⟩
  case round=>
    obtain⟨k,hk,rfl,hno⟩:=hrel
    by_cases hlt:k<n1
    · obtain⟨b,o,ha,hb,hc⟩:=h1.str (i:=k) (by rw[←Hn1.out];exact hlt)
      rw[ha]
      have hx:=hc k (by rw[←Hn1.out];exact hlt)
      clear hc ha
      obtain⟨x,hX⟩:∃x,x=xs.getD k ByteArray.empty:=⟨_,rfl⟩
      rw[←hX] at hx
      have HX:=Lib.hid hX
      clear hX
      by_cases he:y=x
      · have Hfin:=Lib.hid (Ab0 xs y k hno (he.trans HX.out) (by rw[←Hn1.out];exact hlt))
        subst he
        have hb0:(y.toList==y.toList)=true:=beq_self_eq_true _
        go_wp2
        go_ret
        exact⟨AY1 Hfin.out.symm,Below.refl _ _⟩
      · have hno':AU5 xs y (k+1):=fun j hj=>by
          rcases Nat.lt_or_ge j k with h|h
          · exact hno j h
          · obtain rfl:j=k:=by omega
            rw[←HX.out];exact he
        have hb1:(y.toList==x.toList)=false:=BR9 he
        go_wp2
        go_round
        case rel=>exact⟨k+1,by omega,by go_num,hno'⟩
        case measure=>simp [intOf];omega
    · obtain rfl:k=n1:=by omega
      have Hfin:=Lib.hid (A81 xs y (by rw[←Hn1.out];exact hno))
      go_wp2
      go_ret
      exact⟨AY1 Hfin.out.symm,Below.refl _ _⟩
set_option maxRecDepth 100000 in
theorem BM2 (xs:List ByteArray) (y:ByteArray) (a1:Option Addr) (n1 c1:Nat) (w:World) (hn1:n1=xs.length) (hm1:xs.length≤maxLen) (h1:At w a1 (strs xs)):
    Calls Tryz.prog 88 #[.slice a1 n1 c1,.string y] w fun e w'=>e= .returned (.bool (AA8 xs y))∧Below w.heap.size w w':=by
  have hge:decide (0≤AB9 xs y)=AA8 xs y:=by
    unfold AB9
    cases h:AA8 xs y<;>simp
  have Hge:=Lib.hid hge
  have Hn:=Lib.hid hn1
  clear hge hn1
  go_enter Tryz.func88,Tryz.ntmps88
  go_wp2_with fail
  refine(BA4 xs y a1 n1 c1 _ Hn.out hm1 h1).mono ?_
  rintro e w' ⟨rfl,hb⟩
  go_wp2
  go_ret
  exact⟨AT6 Hge.out,hb⟩
end
section
/-- A byte that a name may have. -/
def AY8 (x:Int):Bool:=decide (33≤x∧x≤126)
/-- A text that is a name. -/
def nameB (s:ByteArray):Bool:=decide (1≤s.size∧s.size≤40)&&(nums s).all AY8
/-- Name i is one, and stands nowhere ahead. -/
def okAt (l:List ByteArray) (i:Nat):Bool:=nameB (l.getD i ByteArray.empty)&&decide (AB9 l (l.getD i ByteArray.empty)=i)
def okAll (l:List ByteArray) (k:Nat):Bool:=(List.range k).all (okAt l)
theorem BL8 (l:List ByteArray):okAll l 0=true:=rfl
theorem BM1 (l:List ByteArray) (k:Nat):okAll l (k+1)=(okAll l k&&okAt l k):=by
  unfold okAll
  rw[List.range_succ,List.all_append]
  simp
theorem As4 {l:List ByteArray} {k m:Nat} (h:okAt l k=false) (hk:k<m):okAll l m=false:=by
  unfold okAll
  rw[List.all_eq_false]
  exact⟨k,List.mem_range.2 hk,by rw[h];simp⟩
/-- What is wrong with names of which the n-th said last. -/
def AA6 (l:List ByteArray) (at_:Int):Int:=if ¬(1≤l.length∧l.length≤8) then 1 else if okAll l l.length=false then 4 else if ¬(0≤at_∧at_≤l.length) then 1 else 0
theorem An0 {l:List ByteArray} {t:Int} (h:¬(1≤l.length∧l.length≤8)):AA6 l t=1:=if_pos h
theorem Al9 {l:List ByteArray} {t:Int} (h:1≤l.length∧l.length≤8) (h2:okAll l l.length=false):AA6 l t=4:=by
  unfold AA6;rw[if_neg (fun e=>e h),if_pos h2]
theorem BP2 {l:List ByteArray} {t:Int} (h:1≤l.length∧l.length≤8) (h2:okAll l l.length=true) (h3:¬(0≤t∧t≤l.length)):AA6 l t=1:=by
  unfold AA6;rw[if_neg (fun e=>e h),if_neg (by rw[h2];simp),if_pos h3]
theorem BR2 {l:List ByteArray} {t:Int} (h:1≤l.length∧l.length≤8) (h2:okAll l l.length=true) (h3:0≤t∧t≤l.length):AA6 l t=0:=by
  unfold AA6;rw[if_neg (fun e=>e h),if_neg (by rw[h2];simp),if_neg (fun e=>e h3)]
/-- A name stands first at its own place just where it stands nowhere ahead. -/
theorem Bh5 (l:List ByteArray) (i:Nat) (hi:i<l.length):AB9 l (l.getD i ByteArray.empty)=i↔AA8 (l.take i) (l.getD i ByteArray.empty)=false:=by
  have hget:∀j,j<i→(l.take i).getD j ByteArray.empty=l.getD j ByteArray.empty:=fun j hj=>by
    simp only[List.getD_eq_getElem?_getD,List.getElem?_take_of_lt hj]
  have hlen:(l.take i).length=i:=by rw[List.length_take];omega
  constructor
  · intro e
    rw[Bool.eq_false_iff]
    intro hm
    obtain⟨j,hj,ej⟩:=List.getElem_of_mem ((AL3 _ _).1 hm)
    have hji:j<i:=by omega
    have e2:(l.take i).getD j ByteArray.empty=(l.take i)[j]:=by simp [List.getD,List.getElem?_eq_getElem hj]
    have e3:l.getD i ByteArray.empty=l.getD j ByteArray.empty:=by rw[←hget j hji,e2,ej]
    have hle:AB9 l (l.getD i ByteArray.empty)≤j:=by
      unfold AB9
      split
      · have:l.findIdx (fun x=>decide (x=l.getD i ByteArray.empty))≤j:=by
          refine Nat.le_of_not_lt fun hlt=>?_
          have h1:=List.not_of_lt_findIdx hlt
          have h2:l.getD j ByteArray.empty=l[j]'(by omega):=by simp [List.getD,List.getElem?_eq_getElem (show j<l.length by omega)]
          exact absurd (h2.symm.trans e3.symm) (of_decide_eq_false h1)
        omega
      · omega
    omega
  · intro hm
    refine Ab0 l _ i (fun j hj e=>?_) rfl hi
    rw[Bool.eq_false_iff] at hm
    refine hm ((AL3 _ _).2 ?_)
    rw[e,←hget j hj]
    have hj':j<(l.take i).length:=by omega
    have e2:(l.take i).getD j ByteArray.empty=(l.take i)[j]:=by simp [List.getD,List.getElem?_eq_getElem hj']
    rw[e2]
    exact List.getElem_mem hj'
theorem Bl2 (l:List ByteArray) (i:Nat) (hi:i<l.length):okAt l i=(nameB (l.getD i ByteArray.empty)&&!AA8 (l.take i) (l.getD i ByteArray.empty)):=by
  unfold okAt
  congr 1
  have:=Bh5 l i hi
  cases h:AA8 (l.take i) (l.getD i ByteArray.empty)
  · simpa using this.2 h
  · have h2:¬AB9 l (l.getD i ByteArray.empty)=i:=fun e=>by rw[this.1 e] at h;cases h
    simpa using h2
attribute [irreducible] nameB okAt okAll AA6
end
section
set_option maxHeartbeats 1000000
attribute [local irreducible] SW SL SQ AtQ SV SC BB LD PK Yields
theorem ints_at (xs:List Int) (k:Nat) (h:k<xs.length):(ints xs)[(k:Int).toNat * 1]? =some (.int .i64 (xs.getD k 0)):=by
  simp [ints,List.getD,List.getElem?_eq_getElem h]
end
end Go.Proofs.YtmmnimagbnlcmaaGreatDoor
section
namespace Go.Fw
theorem Aa8 (ts:List Int) (q m:Nat) (l h:Int) (hl:l=q) (hh:h=q+m):((ints ts).drop (l.toNat * 1)).take ((h.toNat-l.toNat) * 1)=ints ((ts.drop q).take m):=by
  rw[show l.toNat * 1=q from by omega,show (h.toNat-l.toNat) * 1=m from by omega]
  simp [ints,List.map_take,List.map_drop]
end Go.Fw
namespace Go.Proofs.YtmmnimagbnlcmaaGreatDoor
open Go Go.RowKit Go.Fw Go.Sx
set_option maxRecDepth 100000
set_option maxHeartbeats 1000000
attribute [local irreducible] SW SL SQ AtQ SV SC BB LD PK Yields
end Go.Proofs.YtmmnimagbnlcmaaGreatDoor
end
namespace Go.Proofs.YtmmnimagbnlcmaaGreatDoor
open Go Go.RowKit Go.Fw Go.Sx
set_option maxRecDepth 100000
section
theorem A77 {s:ByteArray} (h:s.size=0):s=⟨#[]⟩:=by
  obtain⟨d⟩:=s
  congr 1
  exact Array.eq_empty_of_size_eq_zero h
end
end Go.Proofs.YtmmnimagbnlcmaaGreatDoor
