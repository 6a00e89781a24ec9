/- Texts of this claim, merged: Key Key2 Cli12 Cli13 Sgr Sgr2 Sgr3 Drw2 Drw3 Drw4 Drw13 Tabs Tabs2. -/
import Derived.Test.YtmmnimagbnlcmaaGreatDoorTy11
import Derived.WalkKit
import Derived.WalkSpells
import Derived.WalkLawsBesides
import Derived.Handy
import Derived.Lib.Hide
import Derived.Laws.BitsAllLaws
import Derived.Deep.MidRow
import Derived.Deep.WholeRow
import Derived.BigQuiet
import Derived.Laws.CopyOwn
import Derived.Deep.QuietTactic
import Derived.Laws.AppendOwnNone
import Derived.Laws.MakeOwn
import Derived.Laws.IdiomStrings
import Derived.OrdersHeld
import Derived.Lib.SliceRun
import Derived.ChangeKeysEq
import Derived.Laws.CopyRow
import Derived.Test.YtmmnimagbnlcmaaGreatDoorRows
import Derived.Lib.AppendStr
import Derived.ArgAppend
import Derived.Lib.Replace
import Derived.Shelf.Strings.Builder1
import Derived.Shelf.Strings.Builder2
import Derived.Shelf.Strings.OnBuilder
import Derived.Shelf.Strings.Trim
import Derived.Shelf.Small.Utf8
import Derived.Shelf.Small.Strs
import Derived.Shelf.Strings.BuilderF
import Derived.Shelf.Strconv.Itoa0
import Derived.Shelf.Strconv.Itoa1
import Derived.Shelf.LaysM
import Derived.Shelf.Strconv.Itoa2
import Derived.Shelf.Strconv.Itoa3
import Derived.Shelf.Strings.Search1
import Derived.Shelf.Strings.Search2
import Derived.Shelf.Strings.Search3
import Derived.Shelf.Strings.Count
import Derived.Shelf.Strings.Shaped
import Derived.Shelf.Strings.LastIndex
import Derived.Shelf.Strings.Prefix
import Derived.Shelf.Strings.Split
import Derived.Shelf.Strings.Replace
import Derived.Shelf.Strings.SplitShaped
import Derived.Shelf.Strings.Runes
import Derived.Shelf.Strings.AsciiSet
import Derived.Shelf.Bits.Mul64
import Derived.Shelf.Strings.Repeat
import Derived.Shelf.Unicode.DecodeSlow
import Derived.Shelf.Unicode.DecodeAny
import Derived.Shelf.Unicode.ValidAny
import Derived.Test.YtmmnimagbnlcmaaGreatDoorProg
import Derived.Lib.ItoaNum
import Derived.Lib.Join
import Derived.Lib.IndexLaws
import Derived.StillTailTactics
import Derived.RegionTactic
import Derived.ChangeAlike
import Derived.Laws.RangeAny
import Derived.Maps.RangeRun
import Derived.Lib.IndexMore
import Derived.Lib.SplitLaws
import Derived.Lib.Bytealg
import Derived.Lib.Repeat
import Derived.Lib.DecodeN
set_option maxRecDepth 100000
set_option maxHeartbeats 8000000
open Go Go.RowKit Go.Fw Go.Sx
namespace Go.Proofs.YtmmnimagbnlcmaaGreatDoor
section
attribute [local irreducible] SW SL SQ AtQ SV SC BB LD PK Yields SO SOT SOA SY SP SPT SPA
abbrev keyV (name rune mods:Int):Value:= .agg #[.int .i64 name,.int .i64 rune,.int .i64 mods]
def letS (first:ByteArray) (f:Int) (q:Nat):ByteArray:=if q=0 then ((⟨#[27]⟩:ByteArray)++first)++strOfNums [f] else ((⟨#[27,91,49,59]⟩:ByteArray)++numB (q+1))++strOfNums [f]
def nmbS (n q:Nat):ByteArray:=if q=0 then ((⟨#[27,91]⟩:ByteArray)++numB n)++⟨#[126]⟩ else (((⟨#[27,91]⟩:ByteArray)++numB n)++((⟨#[59]⟩:ByteArray)++numB (q+1)))++⟨#[126]⟩
theorem Af6 (G:Ctx) (H:List Ent) (first:ByteArray) (f:Int) (q:Nat) (h1:first.size≤1) (hf:0≤f∧f<128) (hq:q≤7):SV Tryz.prog G 23 [.string first,.int .u8 f,.int .i64 q] H (.string (letS first f q)):=by
 have cI:=fun H=>Al6 G H (q+1) (by omega)
 have eq:((q+1:Nat):Int)=(q:Int)+1:=rfl
 rw[eq] at cI
 have sN:=AR8 0 (q+1) (by omega)
 have z1:(⟨#[27]⟩:ByteArray).size=1:=rfl
 have z2:(⟨#[27,91,49,59]⟩:ByteArray).size=4:=rfl
 have z3:(strOfNums [f]).size=1:=rfl
 unfold letS
 generalize numB (q+1)=N at *
 generalize hS:strOfNums [f]=S at *
 have HS:=Lib.hid hS
 clear hS eq
 refine AF2 Tryz.func23 O O O O O ?_
 repeat' (first|(apply E8;first|(apply A8;refine A9 ?_)|(apply C8;refine D7 O O ?_)|(apply E5;refine F7 O O O ?_;first|(refine AN9 (by (try simp only[ByteArray.size_append]);omega) ?_)|(first|(apply K9;refine L6 ⟨by omega,by omega⟩ ?_)|refine F9 O ?_))|(apply D5;refine D9 O O ?_)|(apply AA3;first|(refine AA8 (AC1 (k:= .i32) O O ⟨by omega,by omega⟩) O ?_)|(refine AA8 (HS.out▸Ak9 O O (by omega) (by omega)) O ?_))|(apply H5;refine H6 O O O (cI _) O O ?_))|(apply D6)|(apply G8)|(apply I4)|(apply A7)|(refine G5 O ?_;apply E9<;>intro hq<;>(try (exfalso;omega)))|(apply C9)|(apply J8))
 ·rw[if_pos (by omega)];refine N7 (by (exact .inr O)) O O0 ?_;rfl
 ·rw[if_neg (by omega)];refine N7 (by (exact .inr O)) O O0 ?_;rfl
theorem BA7 (G:Ctx) (H:List Ent) (n q:Nat) (h1:n<100) (hq:q≤7):SV Tryz.prog G 24 [.int .i64 n,.int .i64 q] H (.string (nmbS n q)):=by
 have cI:=fun H=>Al6 G H (q+1) (by omega)
 have cJ:=fun H=>Al6 G H n h1
 have eq:((q+1:Nat):Int)=(q:Int)+1:=rfl
 rw[eq] at cI
 have sN:=AR8 0 (q+1) (by omega)
 have sM:=AR8 1 n (by omega)
 have z1:(⟨#[27,91]⟩:ByteArray).size=2:=rfl
 have z2:(⟨#[59]⟩:ByteArray).size=1:=rfl
 have z3:(⟨#[126]⟩:ByteArray).size=1:=rfl
 unfold nmbS
 generalize numB (q+1)=N at *
 generalize numB n=M at *
 refine R3 Tryz.func24 O O O O O ?_
 repeat' (first|(apply E8;first|(apply A8;refine A9 ?_)|(apply C8;refine D7 O O ?_)|(apply E5;refine F7 O O O ?_;first|(refine AN9 (by (try simp only[ByteArray.size_append]);omega) ?_)|(first|(apply K9;refine L6 ⟨by omega,by omega⟩ ?_)|refine F9 O ?_))|(apply D5;refine D9 O O ?_)|(apply H5;first|refine H6 O O O (cI _) O O ?_ |refine H6 O O O (cJ _) O O ?_))|(apply D6)|(apply G8)|(apply I4)|(apply A7)|(refine G5 O ?_;apply Y7<;>intro hq<;>(try (exfalso;omega)))|(apply C9))
 ·rw[if_neg (by omega)];refine N7 (by (exact .inr O)) O O0 ?_;rfl
 ·rw[if_pos (by omega)];refine N7 (by (exact .inr O)) O O0 ?_;rfl
theorem By4 (G:Ctx) (H:List Ent) (name L:Int) (q:Nat) (modes z:Int) (hz:ibits .and .i64 modes 16=z) (hL:(name,L)∈[((1:Int),(65:Int)),(2,66),(3,67),(4,68),(5,72),(6,70)]) (hq:q≤7):SV Tryz.prog G 7 [keyV name 0 q,.int .i64 modes] H (.tuple #[.string (letS (if z=0 then ⟨#[91]⟩ else ⟨#[79]⟩) L q),.int .i64 0]):=by
 have cA:=fun H L h=>Af6 G H ⟨#[91]⟩ L q (Nat.le_refl _) h hq
 have cB:=fun H L h=>Af6 G H ⟨#[79]⟩ L q (Nat.le_refl _) h hq
 simp only[List.mem_cons,Prod.mk.injEq,List.not_mem_nil,or_false] at hL
 rcases hL with ⟨rfl,rfl⟩|⟨rfl,rfl⟩|⟨rfl,rfl⟩|⟨rfl,rfl⟩|⟨rfl,rfl⟩|⟨rfl,rfl⟩
 all_goals
  refine R3 Tryz.func7 O O O O O ?_
  repeat' (first|(apply E8;first|(apply A8;refine A9 ?_)|(apply C8;refine D7 O O ?_)|(apply E5;refine F7 O O O ?_;first|(refine AL8 O hz ?_)|(refine F9 O ?_))|(apply F5;refine F8 O O ?_;refine F4 O ?_)|(apply D5;refine D9 O O ?_)|(apply I6;refine J4 O O ?_;first|(apply P7;refine P6 O ?_)|(apply M6;refine M7 O ?_))|(apply G6;refine G7 (D8 O O) O ?_)|(apply K6;refine L9 O O O O O O (fun _=>?_))|(apply I5;refine J9 O O O O ?_;first|(apply I1)|(apply H7)|(apply P5<;>intro hq<;>(try (exfalso;omega)))))|(apply u7;first|(apply Y3;refine Y2 ?_)|(apply Y8;refine j5 O O ?_)|(apply AA5;refine AC8 O O O ?_;apply U8;refine V4 ⟨by omega,by omega⟩ ?_)|(apply V8;refine Y4 O O ?_;refine F4 O ?_)|(apply Y1;refine Z7 O O ?_)|(apply V9;refine X9 (D8 O O) O ?_)|(apply Al3;refine Ar8 (AT5 O O O (by omega) O) O ?_)|(apply AE3;first|refine V7 O O O (cA _ _ ⟨by decide,by decide⟩) O O ?_ |refine V7 O O O (cB _ _ ⟨by decide,by decide⟩) O O ?_))|(apply D6)|(apply G8)|(apply I4)|(apply F3)|(apply A7)|(refine G5 O ?_;first|(apply I1)|(apply H7)|(apply Y7<;>intro hq<;>(try (exfalso;omega))))|(apply C9)|(apply J8)|(apply U5)|refine V6 (by kernel_rfl) ?_)
 all_goals (first|(rw[if_pos (by omega)];refine N7 (by (exact .inr O)) O O0 ?_;rfl)|(rw[if_neg (by omega)];refine N7 (by (exact .inr O)) O O0 ?_;rfl))
theorem B02 (G:Ctx) (H:List Ent) (name:Int) (n q:Nat) (modes:Int) (hL:(name,n)∈[((7:Int),(2:Nat)),(8,3),(9,5),(10,6),(15,15),(16,17),(17,18),(18,19),(19,20),(20,21),(21,23),(22,24)]) (hq:q≤7):SV Tryz.prog G 7 [keyV name 0 q,.int .i64 modes] H (.tuple #[.string (nmbS n q),.int .i64 0]):=by
 have cA:=fun H n h=>BA7 G H n q h hq
 simp only[List.mem_cons,Prod.mk.injEq,List.not_mem_nil,or_false] at hL
 rcases hL with ⟨rfl,rfl⟩|⟨rfl,rfl⟩|⟨rfl,rfl⟩|⟨rfl,rfl⟩|⟨rfl,rfl⟩|⟨rfl,rfl⟩|⟨rfl,rfl⟩|⟨rfl,rfl⟩|⟨rfl,rfl⟩|⟨rfl,rfl⟩|⟨rfl,rfl⟩|⟨rfl,rfl⟩
 all_goals
  refine R3 Tryz.func7 O O O O O ?_
  repeat' (first|(apply E8;first|(apply A8;refine A9 ?_)|(apply C8;refine D7 O O ?_)|(apply E5;refine F7 O O O ?_;refine F9 O ?_)|(apply F5;refine F8 O O ?_;refine F4 O ?_)|(apply D5;refine D9 O O ?_)|(apply I6;refine J4 O O ?_;first|(apply P7;refine P6 O ?_)|(apply M6;refine M7 O ?_))|(apply G6;refine G7 (D8 O O) O ?_)|(apply K6;refine L9 O O O O O O (fun _=>?_))|(apply I5;refine J9 O O O O ?_;first|(apply I1)|(apply H7)|(apply P5<;>intro hq<;>(try (exfalso;omega)))))|(apply u7;first|(apply Y3;refine Y2 ?_)|(apply Y8;refine j5 O O ?_)|(apply AA5;refine AC8 O O O ?_;apply U8;refine V4 ⟨by omega,by omega⟩ ?_)|(apply V8;refine Y4 O O ?_;refine F4 O ?_)|(apply Y1;refine Z7 O O ?_)|(apply V9;refine X9 (D8 O O) O ?_)|(apply Bk5;refine By6 (Q9 O O O) O ?_)|(apply Al3;refine Ar8 (AN1 O O O (by omega) (by omega) O) O ?_)|(apply AE3;first|refine V7 O O O (cA _ 2 (by omega)) O O ?_ |refine V7 O O O (cA _ 3 (by omega)) O O ?_ |refine V7 O O O (cA _ 5 (by omega)) O O ?_ |refine V7 O O O (cA _ 6 (by omega)) O O ?_ |refine V7 O O O (cA _ 15 (by omega)) O O ?_ |refine V7 O O O (cA _ 17 (by omega)) O O ?_ |refine V7 O O O (cA _ 18 (by omega)) O O ?_ |refine V7 O O O (cA _ 19 (by omega)) O O ?_ |refine V7 O O O (cA _ 20 (by omega)) O O ?_ |refine V7 O O O (cA _ 21 (by omega)) O O ?_ |refine V7 O O O (cA _ 23 (by omega)) O O ?_ |refine V7 O O O (cA _ 24 (by omega)) O O ?_))|(apply D6)|(apply G8)|(apply I4)|(apply F3)|(apply A7)|(refine G5 O ?_;first|(apply I1)|(apply H7))|(apply C9)|(apply J8)|(apply U5)|refine V6 (by kernel_rfl) ?_)
 all_goals (refine N7 (by (exact .inr O)) O O0 ?_;rfl)
theorem Bs8 (G:Ctx) (H:List Ent) (name L:Int) (q:Nat) (modes:Int) (hL:(name,L)∈[((11:Int),(80:Int)),(12,81),(13,82),(14,83)]) (hq:q≤7):SV Tryz.prog G 7 [keyV name 0 q,.int .i64 modes] H (.tuple #[.string (letS ⟨#[79]⟩ L q),.int .i64 0]):=by
 have cB:=fun H L h=>Af6 G H ⟨#[79]⟩ L q (Nat.le_refl _) h hq
 simp only[List.mem_cons,Prod.mk.injEq,List.not_mem_nil,or_false] at hL
 rcases hL with ⟨rfl,rfl⟩|⟨rfl,rfl⟩|⟨rfl,rfl⟩|⟨rfl,rfl⟩
 all_goals
  refine R3 Tryz.func7 O O O O O ?_
  repeat' (first|(apply E8;first|(apply A8;refine A9 ?_)|(apply C8;refine D7 O O ?_)|(apply E5;refine F7 O O O ?_;refine F9 O ?_)|(apply F5;refine F8 O O ?_;refine F4 O ?_)|(apply D5;refine D9 O O ?_)|(apply I6;refine J4 O O ?_;first|(apply P7;refine P6 O ?_)|(apply M6;refine M7 O ?_))|(apply G6;refine G7 (D8 O O) O ?_)|(apply K6;refine L9 O O O O O O (fun _=>?_))|(apply I5;refine J9 O O O O ?_;first|(apply I1)|(apply H7)|(apply P5<;>intro hq<;>(try (exfalso;omega)))))|(apply u7;first|(apply Y3;refine Y2 ?_)|(apply Y8;refine j5 O O ?_)|(apply AA5;refine AC8 O O O ?_;apply U8;refine V4 ⟨by omega,by omega⟩ ?_)|(apply V8;refine Y4 O O ?_;refine F4 O ?_)|(apply Y1;refine Z7 O O ?_)|(apply V9;refine X9 (D8 O O) O ?_)|(apply Al3;refine Ar8 (AT5 O O O (by omega) O) O ?_)|(apply AE3;refine V7 O O O (cB _ _ ⟨by decide,by decide⟩) O O ?_))|(apply D6)|(apply G8)|(apply I4)|(apply F3)|(apply A7)|(refine G5 O ?_;first|(apply I1)|(apply H7))|(apply C9)|(apply J8)|(apply U5)|refine V6 (by kernel_rfl) ?_)
 all_goals (refine N7 (by (exact .inr O)) O O0 ?_;rfl)
def keyOk (name rune mods:Int):Prop:=(0≤mods∧mods≤7)∧(0≤name∧name≤26)∧(name=0→isR rune)∧(name≠0→rune=0)
def charC (c z4:Int):Int:=if z4≠0 then (if (64≤c∧c≤95)∨(97≤c∧c≤122) then c % 32 else if c=32 then 0 else if c=63 then 127 else c) else c
def AN6 (name c z1 z4:Int):ByteArray:=
 if name=23 then ⟨#[13]⟩ else if name=24 then (if z1≠0 then ⟨#[27,91,90]⟩ else ⟨#[9]⟩) else if name=25 then (if z4≠0 then ⟨#[8]⟩ else ⟨#[127]⟩) else if name=26 then ⟨#[27]⟩ else strOfNums (runeL (charC c z4))
theorem B36 {c z4:Int} (h:isR c):isR (charC c z4):=by
 unfold charC isR at *
 split
 ·split
  ·omega
  ·split
   ·omega
   ·split<;>omega
 ·exact h
theorem Al8 (c:Int) (h:isR c):encL [c]=runeL c:=by
 unfold encL fixR isR at *
 rw[List.flatMap_cons,List.flatMap_nil,List.append_nil,if_neg (by omega)]
theorem A51 (G:Ctx) (H:List Ent) (c:Int):SV Tryz.prog G 22 [.int .i64 c] H (.bool (decide (isR c))):=by
 unfold isR
 refine P8 Tryz.func22 O O O O O ?_
 repeat' (first|(apply E8;first|(apply A8;refine A9 ?_)|(apply C8;refine D7 O O ?_)|(apply E5;refine F7 O O O ?_;refine F9 O ?_)|(apply D5;refine D9 O O ?_)|(apply I6;refine J4 O O ?_;first|(apply P7;refine P6 O ?_)|(apply M6;refine M7 O ?_))|(apply I5;first|(refine J9 O O O O ?_;first|(apply I1)|(apply H7)|(apply d9)|(apply E9<;>intro hq<;>(try (exfalso;omega)))|(apply P5<;>intro hq<;>(try (exfalso;omega))))|refine o8 O O O O O O ?_))|(apply D6)|(apply I4)|(apply A7)|(apply C9))
 all_goals (refine N7 (by (exact .inr O)) O O0 ?_;first|exact Bk3 (by omega)|exact Bh5 (by omega)|exact Al2 (by omega))
theorem A73 (G:Ctx) (H:List Ent) (c mods z4:Int) (h:isR c) (hz:ibits .and .i64 mods 4=z4):SV Tryz.prog G 51 [.int .i64 c,.int .i64 mods] H (.string (strOfNums (runeL (charC c z4)))):=by
 have cE:=fun H a x (hx:isR x) h=>Al8 x hx▸BY3 G H [x] a 1 1 (h1:=h) rfl rfl (by simp)
 have hcs:charC c z4=if z4≠0 then (if (64≤c∧c≤95)∨(97≤c∧c≤122) then c % 32 else if c=32 then 0 else if c=63 then 127 else c) else c:=rfl
 generalize charC c z4=y at *
 unfold isR at h cE
 have Hcs:=Lib.hid hcs
 clear hcs
 refine R3 Tryz.func51 O O O O O ?_
 repeat' (first|(apply E8;first|(apply A8;refine A9 ?_)|(apply C8;refine D7 O O ?_)|(apply E5;refine F7 O O O ?_;first|(refine AL8 O hz ?_)|(first|(apply BZ1;refine Br8 O O (by omega) (by omega) ?_)|refine F9 O ?_))|(apply D5;refine D9 O O ?_)|(apply I6;refine J4 O O ?_;first|(apply P7;refine P6 O ?_)|(apply M6;refine M7 O ?_))|(apply H5;refine H6 O O O (cE _ _ _ (by omega) inferInstance) O O ?_)|(apply j3;refine R8 O O O O O O O O O O (fun _=>?_))|(apply I5;first|(refine J9 O O O O ?_;first|(apply I1)|(apply H7)|(apply d9)|(apply E9<;>intro hq<;>(try (exfalso;omega)))|(apply P5<;>intro hq<;>(try (exfalso;omega))))|refine o8 O O O O O O ?_))|(apply D6)|(apply G8)|(apply I4)|(apply F3)|(apply A7)|(refine G5 O ?_;first|(apply I1)|(apply H7)|(apply E9<;>intro hq<;>(try (exfalso;omega)))|(apply Y7<;>intro hq<;>(try (exfalso;omega))))|(apply C9)|(apply H9))
 all_goals (refine N7 (by (exact .inr O)) O O0 ?_;rw[Hcs.out];(repeat (first|rw[if_pos (by omega)]|rw[if_neg (by omega)]));rfl)
theorem Bn8 (G:Ctx) (H:List Ent) (name c mods z1 z4:Int) (hn:23≤name∧name≤26∨name=0) (h:name=0→isR c) (h1:ibits .and .i64 mods 1=z1) (h4:ibits .and .i64 mods 4=z4):SV Tryz.prog G 25 [keyV name c mods] H (.string (AN6 name c z1 z4)):=by
 have cC:=fun H (h0:name=0)=>A73 G H c mods z4 (h h0) h4
 have hp:AN6 name c z1 z4=if name=23 then ⟨#[13]⟩ else if name=24 then (if z1≠0 then ⟨#[27,91,90]⟩ else ⟨#[9]⟩) else if name=25 then (if z4≠0 then ⟨#[8]⟩ else ⟨#[127]⟩) else if name=26 then ⟨#[27]⟩ else strOfNums (runeL (charC c z4)):=rfl
 rw[hp]
 clear h hp
 refine P8 Tryz.func25 O O O O O ?_
 repeat' (first|(apply E8;first|(apply A8;refine A9 ?_)|(apply C8;refine D7 O O ?_)|(apply E5;refine F7 O O O ?_;first|(refine AL8 O h1 ?_)|(refine AL8 O h4 ?_)|(refine F9 O ?_))|(apply F5;refine F8 O O ?_;refine F4 O ?_)|(apply D5;refine D9 O O ?_)|(apply I6;refine J4 O O ?_;first|(apply P7;refine P6 O ?_)|(apply M6;refine M7 O ?_))|(apply G6;refine G7 (D8 O O) O ?_)|(apply H5;refine H6 O O O (cC _ (by omega)) O O ?_)|(apply K6;refine L9 O O O O O O (fun _=>?_))|(apply I5;refine J9 O O O O ?_;first|(apply I1)|(apply H7)|(apply E9<;>intro hq<;>(try (exfalso;omega)))))|(apply D6)|(apply G8)|(apply I4)|(apply F3)|(apply A7)|(refine G5 O ?_;first|(apply H7)|(apply E9<;>intro hq<;>(try (exfalso;omega)))|(apply Y7<;>intro hq<;>(try (exfalso;omega))))|(apply C9)|(apply J8)|(apply H9)|(apply U5))
 all_goals (refine N7 (by (exact .inr O)) O O0 ?_;(repeat (first|rw[if_pos (by omega)]|rw[if_neg (by omega)]));rfl)
theorem BF6 (G:Ctx) (H:List Ent) (name c mods z1 z2 z4 modes:Int) (hq:0≤mods∧mods≤7) (hn:23≤name∧name≤26∨name=0) (h:name=0→isR c) (h0:name≠0→c=0) (h1:ibits .and .i64 mods 1=z1) (h2:ibits .and .i64 mods 2=z2) (h4:ibits .and .i64 mods 4=z4):SV Tryz.prog G 7 [keyV name c mods,.int .i64 modes] H (.tuple #[.string (if z2≠0 then (⟨#[27]⟩:ByteArray)++AN6 name c z1 z4 else AN6 name c z1 z4),.int .i64 0]):=by
 have cP:=fun H=>Bn8 G H name c mods z1 z4 hn h h1 h4
 have cK:=fun H=>A51 G H c
 have hpl:(AN6 name c z1 z4).size≤10:=by
  unfold AN6
  repeat' split
  all_goals (first|decide|skip)
  rw[Aa2]
  have:=AX4 (charC c z4)
  omega
 have z9:(⟨#[27]⟩:ByteArray).size=1:=rfl
 generalize AN6 name c z1 z4=B at *
 have hR:name=0→decide (isR c)=true:=fun e=>decide_eq_true (h e)
 generalize decide (isR c)=r at *
 clear h h1 h4
 refine R3 Tryz.func7 O O O O O ?_
 repeat' (first|(apply E8;first|(apply A8;refine A9 ?_)|(apply C8;refine D7 O O ?_)|(apply E5;refine F7 O O O ?_;first|(refine AL8 O h2 ?_)|(refine AN9 (by (try simp only[ByteArray.size_append]);omega) ?_)|(refine F9 O ?_))|(apply F5;refine F8 O O ?_;first|refine F4 O ?_ |refine M5 O ?_)|(apply D5;refine D9 O O ?_)|(apply I6;refine J4 O O ?_;first|(apply P7;refine P6 O ?_)|(apply M6;refine M7 O ?_))|(apply G6;refine G7 (D8 O O) O ?_)|(apply X5;refine Z9 (Z8 O O O) O ?_)|(apply H5;first|refine H6 O O O (cP _) O O ?_ |refine H6 O O O (cK _) O O ?_)|(apply K6;refine L9 O O O O O O (fun _=>?_))|(apply I5;first|(refine J9 O O O O ?_;first|(apply I1)|(apply H7)|(apply d9)|(apply E9<;>intro hq<;>(try (exfalso;omega)))|(apply P5<;>intro hq<;>(try (exfalso;omega)))|(apply Y7<;>intro hq<;>(try (exfalso;omega)))|(apply Ac3<;>intro hq))|refine o8 O O O O O O ?_))|(apply D6)|(apply G8)|(apply I4)|(apply F3)|(apply A7)|(refine G5 O ?_;first|(apply I1)|(apply H7)|(apply E9<;>intro hq<;>(try (exfalso;omega)))|(apply Y7<;>intro hq<;>(try (exfalso;omega))))|(apply C9)|(apply J8)|(apply H9))
 all_goals first
  | (exfalso;omega)
  | (have hr:=hR (by omega);rw[hr] at hq;cases hq;done)
  | (rw[if_pos (by omega)];refine N7 (by first|exact .inl O|exact .inr O) O O0 ?_;rfl)
  | (rw[if_neg (by omega)];refine N7 (by (exact .inr O)) O O0 ?_;rfl)
theorem By7 (G:Ctx) (H:List Ent) (name c mods modes:Int) (hb:¬keyOk name c mods):SV Tryz.prog G 7 [keyV name c mods,.int .i64 modes] H (.tuple #[.string ⟨#[]⟩,.int .i64 1]):=by
 have cK:=fun H=>A51 G H c
 unfold keyOk at hb
 have hb':(0≤mods∧mods≤7)→(0≤name∧name≤26)→(name=0→decide (isR c)=false)∧(name≠0→c≠0):=fun h1 h2=>⟨fun h3=>decide_eq_false fun h4=>hb ⟨h1,h2,fun _=>h4,fun h5=>absurd h3 h5⟩,fun h3 h4=>hb ⟨h1,h2,fun h5=>absurd h5 h3,fun _=>h4⟩⟩
 generalize decide (isR c)=r at *
 have Hb:=Lib.hid hb'
 clear hb hb'
 refine R3 Tryz.func7 O O O O O ?_
 repeat' (first|(apply E8;first|(apply A8;refine A9 ?_)|(apply C8;refine D7 O O ?_)|(apply E5;refine F7 O O O ?_;refine F9 O ?_)|(apply F5;refine F8 O O ?_;refine F4 O ?_)|(apply D5;refine D9 O O ?_)|(apply I6;refine J4 O O ?_;first|(apply P7;refine P6 O ?_)|(apply M6;refine M7 O ?_))|(apply G6;refine G7 (D8 O O) O ?_)|(apply X5;refine Z9 (Z8 O O O) O ?_)|(apply H5;refine H6 O O O (cK _) O O ?_)|(apply K6;refine L9 O O O O O O (fun _=>?_))|(apply I5;first|(refine J9 O O O O ?_;first|(apply I1)|(apply H7)|(apply d9)|(apply E9<;>intro hq<;>(try (exfalso;omega)))|(apply P5<;>intro hq<;>(try (exfalso;omega)))|(apply Y7<;>intro hq<;>(try (exfalso;omega)))|(apply Ac3<;>intro hq))|refine o8 O O O O O O ?_))|(apply D6)|(apply G8)|(apply I4)|((fail_if_success (refine J5 (id:=3) ?_));apply A7)|(refine G5 O ?_;first|(apply I1)|(apply H7)|(apply Y7<;>intro hq<;>(try (exfalso;omega))))|(apply C9)|(apply J8))
 all_goals first
  | (refine N7 (by first|exact .inl O|exact .inr O) O O0 ?_;rfl)
  | (exfalso;have h3:=Hb.out (by omega) (by omega);omega)
  | (exfalso;have h3:=(Hb.out (by omega) (by omega)).1 (by omega);have h4:r=true:=(by assumption);rw[h3] at h4;cases h4)
theorem BA5 (x:Int) (h:x<128):runeL x=[x]:=if_pos h
theorem BY8 (name:Int) (h:0≤name∧name≤26):(∃L,(name,L)∈[((1:Int),(65:Int)),(2,66),(3,67),(4,68),(5,72),(6,70)])∨(∃n:Nat,(name,n)∈[((7:Int),(2:Nat)),(8,3),(9,5),(10,6),(15,15),(16,17),(17,18),(18,19),(19,20),(20,21),(21,23),(22,24)])∨(∃L,(name,L)∈[((11:Int),(80:Int)),(12,81),(13,82),(14,83)])∨(23≤name∧name≤26∨name=0):=by
 obtain⟨k,rfl⟩:∃k:Nat,name=k:=⟨name.toNat,by omega⟩
 have hk:k≤26:=by omega
 match k,hk with
 | 0,_=>exact .inr (.inr (.inr (.inr O)))
 | 1,_=>exact .inl ⟨65,by decide⟩
 | 2,_=>exact .inl ⟨66,by decide⟩
 | 3,_=>exact .inl ⟨67,by decide⟩
 | 4,_=>exact .inl ⟨68,by decide⟩
 | 5,_=>exact .inl ⟨72,by decide⟩
 | 6,_=>exact .inl ⟨70,by decide⟩
 | 7,_=>exact .inr (.inl ⟨2,by decide⟩)
 | 8,_=>exact .inr (.inl ⟨3,by decide⟩)
 | 9,_=>exact .inr (.inl ⟨5,by decide⟩)
 | 10,_=>exact .inr (.inl ⟨6,by decide⟩)
 | 11,_=>exact .inr (.inr (.inl ⟨80,by decide⟩))
 | 12,_=>exact .inr (.inr (.inl ⟨81,by decide⟩))
 | 13,_=>exact .inr (.inr (.inl ⟨82,by decide⟩))
 | 14,_=>exact .inr (.inr (.inl ⟨83,by decide⟩))
 | 15,_=>exact .inr (.inl ⟨15,by decide⟩)
 | 16,_=>exact .inr (.inl ⟨17,by decide⟩)
 | 17,_=>exact .inr (.inl ⟨18,by decide⟩)
 | 18,_=>exact .inr (.inl ⟨19,by decide⟩)
 | 19,_=>exact .inr (.inl ⟨20,by decide⟩)
 | 20,_=>exact .inr (.inl ⟨21,by decide⟩)
 | 21,_=>exact .inr (.inl ⟨23,by decide⟩)
 | 22,_=>exact .inr (.inl ⟨24,by decide⟩)
 | 23,_=>exact .inr (.inr (.inr (.inl (by decide))))
 | 24,_=>exact .inr (.inr (.inr (.inl (by decide))))
 | 25,_=>exact .inr (.inr (.inr (.inl (by decide))))
 | 26,_=>exact .inr (.inr (.inr (.inl (by decide))))
end
section
attribute [local irreducible] SW SL SQ AtQ SV SC BB LD PK Yields SO SOT SOA SY SP SPT SPA negC
abbrev evC (kind:Int) (data:ByteArray) (name rune:Int):List Value:=[.int .i64 kind,.string data,.int .i64 name,.int .i64 rune,.int .i64 0,.int .i64 0,.int .i64 0,.int .i64 0,.int .i64 0,.bool false,.slice none 0 0,.int .i64 0,.int .i64 0,.bool false,.int .i64 0,.bool false]
def workZ:List Value:=cliZ++[.string .empty]
theorem AD0:cliZ.length=613:=by unfold cliZ;exact AG5 (m:=520) (by rw[show (big [Value.slice none 0 0,.int .i64 0,.slice none 0 0] keyZ cliE).length=48 from AG5 (m:=38) rfl];rfl)
theorem BH9:OffsT Tryz.prog 135 [(0,613),(613,1)] workZ:=⟨(([(0,613),(613,1)]:List (Nat×Nat)).toArray[·]?),fun _=>by kernel_rfl,fun i p h=>by simpa using h⟩
theorem A39 (C:List Value) (h:C.length=613):AB6 [(0,613),(613,1)] workZ [(0,C)]=some (C++[.string .empty]):=by
 have hz:workZ.length=614:=by unfold workZ;rw[List.length_append,AD0];rfl
 refine(AN5 (off:=0) (sz:=613) (l':=C++[.string .empty]) O h (by decide) (by rw[hz];decide) ?_).trans O
 unfold over workZ
 rw[h,List.take_zero,List.nil_append,Nat.zero_add,←AD0,List.drop_left]
end
end Go.Proofs.YtmmnimagbnlcmaaGreatDoor
namespace Go.Fw
abbrev Tri:=Int×Int×Int
def flagI (n:Int):Int:=[0,1,2,4,8,16,0,32,64,128].getD n.toNat 0
def oneP (t:Tri) (n:Int):Tri:=
 if n=0 then (0,0,0)
 else if n≤9 then (ior t.1 (flagI n),t.2.1,t.2.2)
 else if n=22 then (iclr t.1 3,t.2.1,t.2.2)
 else if 23≤n∧n≤29 then (iclr t.1 (flagI (n-20)),t.2.1,t.2.2)
 else if 30≤n∧n≤37 then (t.1,n-29,t.2.2)
 else if n=39 then (t.1,0,t.2.2)
 else if 90≤n∧n≤97 then (t.1,n-81,t.2.2)
 else if 40≤n∧n≤47 then (t.1,t.2.1,n-39)
 else if n=49 then (t.1,t.2.1,0)
 else if 100≤n∧n≤107 then (t.1,t.2.1,n-91)
 else t
def extL (l:List Int):Int×Nat:=
 if 2≤l.length∧l.getD 0 0=5∧l.getD 1 0<256 then (max (l.getD 1 0) 0+1,2)
 else if 4≤l.length∧l.getD 0 0=2∧(l.getD 1 0<256∧l.getD 2 0<256∧l.getD 3 0<256) then (16777216+65536 * max (l.getD 1 0) 0+256 * max (l.getD 2 0) 0+max (l.getD 3 0) 0,4)
 else (0,0)
def setC (t:Tri) (n c:Int):Tri:=if n=38 then (t.1,c,t.2.2) else (t.1,t.2.1,c)
def sgrF:Nat→Tri→List Int→Tri
 | 0,t,_=>t
 | _+1,t,[]=>t
 | k+1,t,a::r=>if max a 0=38∨max a 0=48 then (if (extL r).2=0 then t else sgrF k (setC t (max a 0) (extL r).1) (r.drop (extL r).2)) else sgrF k (oneP t (max a 0)) r
def mxL (l:List Int):List Int:=l.map (max · 0)
theorem Ah2 (l:List Int):(mxL l).length=l.length:=by simp [mxL]
theorem Ak7 (l:List Int) (k:Nat):(mxL l).getD k 0=max (l.getD k 0) 0:=by
 unfold mxL
 simp only[List.getD_eq_getElem?_getD,List.getElem?_map]
 cases l[k]? <;>simp
theorem Bv1 (l:List Int):extL (mxL l)=extL l:=by
 unfold extL
 simp only[Ah2,Ak7]
 have e:∀x:Int,max (max x 0) 0=max x 0:=fun x=>by omega
 have e5:(max (l.getD 0 0) 0=5)=(l.getD 0 0=5):=by apply propext;omega
 have e2:(max (l.getD 0 0) 0=2)=(l.getD 0 0=2):=by apply propext;omega
 have el:∀x:Int,(max x 0<256)=(x<256):=fun x=>by apply propext;omega
 simp only[e,e5,e2,el]
theorem BU8 (l:List Int):(extL l).2=0∨(extL l).2=2∧2≤l.length∨(extL l).2=4∧4≤l.length:=by
 unfold extL
 split
 ·exact .inr (.inl ⟨O,by omega⟩)
 ·split
  ·exact .inr (.inr ⟨O,by omega⟩)
  ·exact .inl O
theorem Aq5:∀(k:Nat) (t:Tri) (l:List Int),sgrF k t (mxL l)=sgrF k t l
 | 0,_,_=>rfl
 | _+1,_,[]=>rfl
 | k+1,t,a::r=>by
   have e:max (max a 0) 0=max a 0:=by omega
   show (if max (max a 0) 0=38∨max (max a 0) 0=48 then (if (extL (mxL r)).2=0 then t else sgrF k (setC t (max (max a 0) 0) (extL (mxL r)).1) ((mxL r).drop (extL (mxL r)).2)) else sgrF k (oneP t (max (max a 0) 0)) (mxL r))=_
   rw[e,Bv1,Aq5 k _ r,show (mxL r).drop (extL r).2=mxL (r.drop (extL r).2) from by simp [mxL],Aq5 k _ _]
   rfl
theorem Ae0:∀(k j:Nat) (t:Tri) (l:List Int),l.length≤k→sgrF (k+j) t l=sgrF k t l
 | 0,j,t,l,h=>by
   obtain rfl:l=[]:=List.eq_nil_of_length_eq_zero (by omega)
   cases j<;>rfl
 | k+1,j,t,[],_=>by
   rw[show k+1+j=(k+j)+1 from by omega]
   rfl
 | k+1,j,t,a::r,h=>by
   have hr:r.length≤k:=by simpa using h
   rw[show k+1+j=(k+j)+1 from by omega]
   show (if max a 0=38∨max a 0=48 then (if (extL r).2=0 then t else sgrF (k+j) (setC t (max a 0) (extL r).1) (r.drop (extL r).2)) else sgrF (k+j) (oneP t (max a 0)) r)=(if max a 0=38∨max a 0=48 then (if (extL r).2=0 then t else sgrF k (setC t (max a 0) (extL r).1) (r.drop (extL r).2)) else sgrF k (oneP t (max a 0)) r)
   rw[Ae0 k j _ r hr,Ae0 k j _ (r.drop _) (by rw[List.length_drop];omega)]
def sgrL (t:Tri) (l:List Int):Tri:=sgrF l.length t l
theorem Bg2 (t:Tri):sgrL t []=t:=rfl
theorem Ba4 (t:Tri) (a:Int) (r:List Int):sgrL t (a::r)=if max a 0=38∨max a 0=48 then (if (extL r).2=0 then t else sgrL (setC t (max a 0) (extL r).1) (r.drop (extL r).2)) else sgrL (oneP t (max a 0)) r:=by
 unfold sgrL
 show (if max a 0=38∨max a 0=48 then (if (extL r).2=0 then t else sgrF r.length (setC t (max a 0) (extL r).1) (r.drop (extL r).2)) else sgrF r.length (oneP t (max a 0)) r)=_
 rw[show sgrF r.length (setC t (max a 0) (extL r).1) (r.drop (extL r).2)=sgrF (r.drop (extL r).2).length (setC t (max a 0) (extL r).1) (r.drop (extL r).2) from by
  have h:=BU8 r
  have hl:(r.drop (extL r).2).length≤r.length:=by rw[List.length_drop];omega
  obtain⟨j,hj⟩:=Nat.le.dest hl
  rw[←hj,Ae0 _ _ _ _ (Nat.le_refl _)]]
theorem Bx7 (t:Tri) (l:List Int):sgrL t (mxL l)=sgrL t l:=by
 unfold sgrL
 rw[Ah2,Aq5]
attribute [irreducible] sgrL
end Go.Fw
namespace Go.Proofs.YtmmnimagbnlcmaaGreatDoor
section
attribute [local irreducible] SW SL SQ AtQ SV SC BB LD PK Yields SO SOT SOA SY SP SPT SPA
def AD9 (x:Int):Bool:=decide (x< -1∨16383<x)
def bigB (x:Int):Bool:=decide (255<x)
theorem Bb3 (G:Ctx) (H:List Ent) (x:Int):SV Tryz.prog G 255 [.int .i64 x] H (.bool (AD9 x)):=by
 unfold AD9
 refine P8 Tryz.func255 O O O O O ?_
 repeat' (first|(apply E8;first|(apply A8;refine A9 ?_)|(apply C8;refine D7 O O ?_)|(apply E5;refine F7 O O O ?_;refine F9 O ?_)|(apply D5;refine D9 O O ?_)|(apply I6;refine J4 O O ?_;first|(apply P7;refine P6 O ?_)|(apply M6;refine M7 O ?_))|(apply I5;refine J9 O O O O ?_;first|(apply I1)|(apply d9)|(apply P5<;>intro hq<;>(try (exfalso;omega)))))|(apply D6)|(apply I4)|(apply A7)|(apply C9))
 all_goals (refine N7 (by (exact .inr O)) O O0 ?_;first|exact Bk3 (by omega)|exact Al2 (by omega))
theorem Aw8 (G:Ctx) (H:List Ent) (x:Int):SV Tryz.prog G 271 [.int .i64 x] H (.bool (bigB x)):=by
 unfold bigB
 refine P8 Tryz.func271 O O O O O ?_
 repeat' (first|(apply E8;first|(apply A8;refine A9 ?_)|(apply C8;refine D7 O O ?_)|(apply E5;refine F7 O O O ?_;refine F9 O ?_)|(apply D5;refine D9 O O ?_))|(apply D6)|(apply I4)|(apply A7)|(apply C9))
 all_goals (refine N7 (by (exact .inr O)) O O0 ?_;exact Al2 (by omega))
theorem B79 (p:Int→Bool):∀xs:List Int,4≤xs.length→((xs.drop 1).take 3).any p=(p (xs.getD 1 0)||(p (xs.getD 2 0)||p (xs.getD 3 0)))
 | x0::x1::x2::x3::r,_=>by simp
theorem BC6 (G:Ctx) (H:List Ent) (xs:List Int) {vs:List Value} (a:Option Addr) (n c:Nat) [h1:RdC G H a vs] (hv:vs=ints xs) (hn:n=xs.length) (hm:xs.length≤1000) (hc:n≤c) (hx:∀x∈xs,0≤x∧x≤16383):SV Tryz.prog G 257 [.slice a n c] H (.tuple #[.int .i64 (extL xs).1,.int .i64 (extL xs).2]):=by
 subst hv
 have hix:∀k:Nat,k<n→(ints xs)[(k:Int).toNat * 1]? =some (.int .i64 (xs.getD k 0)):=fun k hk=>ints_at xs k (by rw[←hn];exact hk)
 have hlx:(ints xs).length=n * 1:=by simp [ints,hn]
 have hb:=fun k (hk:k<n)=>hx _ (Al1 (xs:=xs) (j:=k) (by rw[←hn];exact hk))
 have HB:=Lib.hid hb
 clear hb
 unfold extL
 have cB:=fun H x=>Aw8 G H x
 by_cases h2:2≤xs.length∧xs.getD 0 0=5∧xs.getD 1 0<256
 ·rw[if_pos h2]
  obtain⟨l2,e5,e6⟩:=h2
  have hx0:=hix 0 (by omega)
  have hx1:=hix 1 (by omega)
  have hb1:=HB.out 1 (by omega)
  rw[e5] at hx0
  have cB1:=fun H=>cB H (xs.getD 1 0)
  rw[show bigB (xs.getD 1 0)=false from by unfold bigB;exact decide_eq_false (by omega)] at cB1
  rw[show max (xs.getD 1 0) 0=xs.getD 1 0 from by omega]
  clear HB hix hx hm
  generalize xs.getD 1 0=x1 at *
  refine P8 Tryz.func257 O O O O O ?_
  repeat' (first|(apply E8;first|(apply A8;refine A9 ?_)|(apply C8;refine D7 O O ?_)|(apply E5;refine F7 O O O ?_;first|(apply K9;refine L6 ⟨by omega,by omega⟩ ?_)|refine F9 O ?_)|(apply F5;refine F8 O O ?_;first|refine X8 hx0 ?_ |refine X8 hx1 ?_)|(apply D5;refine D9 O O ?_)|(apply I6;refine J4 O O ?_;apply P7;refine P6 O ?_)|(apply X5;refine Z9 (Z8 O O O) O ?_)|(apply M4;refine M8 (K7 O O O hlx (by omega) (by omega)) O ?_)|(apply K5;refine s_call (S9 O O) O ?_)|(apply I5;refine J9 O O O O ?_;first|(apply I1)|(apply E9<;>intro hq<;>(try (exfalso;omega))))|(refine AH8 O O O O (cB1 _) O O ?_))|(apply D6)|(apply I4)|(apply F3)|(apply A7)|(refine G5 O ?_;apply I1)|(apply C9)|(apply J8)|(apply U5))
  all_goals (refine N7 (by (exact .inr O)) O O0 ?_;rfl)
 ·rw[if_neg h2]
  have cC:=fun (H:List Ent) (a':Option Addr) (c':Nat) {vs:List Value} [RdC G H a' vs] (hv:vs=ints ((xs.drop 1).take 3)) (h4:4≤xs.length)=>Ad0 G H 271 bigB ((xs.drop 1).take 3) a' 3 c' hv (by simp;omega) (by simp [maxLen];omega) (fun H x _=>Aw8 G H x)
  by_cases h4:4≤xs.length∧xs.getD 0 0=2∧(xs.getD 1 0<256∧xs.getD 2 0<256∧xs.getD 3 0<256)
  ·rw[if_pos h4]
   obtain⟨l4,e2,e6,e7,e8⟩:=h4
   have hx0:=hix 0 (by omega)
   have hx1:=hix 1 (by omega)
   have hx2:=hix 2 (by omega)
   have hx3:=hix 3 (by omega)
   have hb1:=HB.out 1 (by omega)
   have hb2:=HB.out 2 (by omega)
   have hb3:=HB.out 3 (by omega)
   rw[e2] at hx0
   have ha:((xs.drop 1).take 3).any bigB=false:=by
    rw[B79 bigB xs l4]
    unfold bigB
    rw[decide_eq_false (by omega),decide_eq_false (by omega),decide_eq_false (by omega)]
    rfl
   have cC:=fun H a' c' {vs} [RdC G H a' vs] (hv:vs=ints ((xs.drop 1).take 3))=>cC H a' c' hv l4
   rw[ha] at cC
   have hpc:=Aa0 xs 1 3 1 4 rfl rfl
   have er:16777216+65536 * max (xs.getD 1 0) 0+256 * max (xs.getD 2 0) 0+max (xs.getD 3 0) 0=16777216+xs.getD 1 0 * 65536+xs.getD 2 0 * 256+xs.getD 3 0:=by omega
   rw[er]
   clear HB hix hx hm er ha h2
   generalize xs.getD 1 0=x1 at *
   generalize xs.getD 2 0=x2 at *
   generalize xs.getD 3 0=x3 at *
   refine P8 Tryz.func257 O O O O O ?_
   repeat' (first|(apply E8;first|(apply A8;refine A9 ?_)|(apply C8;refine D7 O O ?_)|(apply E5;refine F7 O O O ?_;refine F9 O ?_)|(apply F5;refine F8 O O ?_;refine X8 hx0 ?_)|(apply D5;refine D9 O O ?_)|(apply I6;refine J4 O O ?_;first|(apply P7;refine P6 O ?_)|(apply M6;refine M7 O ?_))|(apply X5;refine Z9 (Z8 O O O) O ?_)|(apply M4;refine M8 (K7 O O O hlx (by omega) (by omega)) O ?_)|(apply H5;refine H6 O O O (cC _ _ _ hpc) O O ?_)|(apply K5;refine s_call (S9 O O) O ?_)|(apply r9;refine AH5 (Hr:=H) O O O O O RdC.here hlx (by omega) (by omega) (by omega) (by omega) O O (fun _ _=>?_))|(apply I5;refine J9 O O O O ?_;first|(apply I1)|(apply H7)|(apply E9<;>intro hq<;>(try (exfalso;omega)))))|(apply u7;first|(apply Y3;refine Y2 ?_)|(apply Y8;refine j5 O O ?_)|(apply AA5;refine AC8 O O O ?_;first|(refine Bx9 O O O ⟨by omega,by omega⟩ ?_)|(apply K9;refine L6 ⟨by omega,by omega⟩ ?_))|(apply V8;refine Y4 O O ?_;first|refine X8 hx1 ?_ |refine X8 hx2 ?_ |refine X8 hx3 ?_)|(apply Y1;refine Z7 O O ?_)|(apply AO7;refine AL6 (K7 O O O hlx (by omega) (by omega)) O ?_))|(apply D6)|(apply I4)|(apply F3)|(apply A7)|(refine G5 O ?_;first|(apply I1)|(apply H7))|(apply C9)|(apply J8)|(apply U5)|refine V6 (by kernel_rfl) ?_)
   all_goals (refine N7 (by (exact .inr O)) O O0 ?_;rfl)
  ·rw[if_neg h4]
   have hcs:n<2∨(2≤n∧xs.getD 0 0=5∧bigB (xs.getD 1 0)=true)∨(2≤n∧n<4∧¬xs.getD 0 0=5)∨(4≤n∧¬xs.getD 0 0=5∧¬xs.getD 0 0=2)∨(4≤n∧xs.getD 0 0=2∧((xs.drop 1).take 3).any bigB=true):=by
    rw[←hn] at h2 h4
    by_cases a1:n<2
    ·exact .inl a1
    ·by_cases a2:xs.getD 0 0=5
     ·exact .inr (.inl ⟨by omega,a2,by unfold bigB;exact decide_eq_true (by omega)⟩)
     ·by_cases a3:n<4
      ·exact .inr (.inr (.inl ⟨by omega,a3,a2⟩))
      ·by_cases a4:xs.getD 0 0=2
       ·refine .inr (.inr (.inr (.inr ⟨by omega,a4,?_⟩)))
        rw[B79 bigB xs (by omega)]
        unfold bigB
        by_cases b1:255<xs.getD 1 0
        ·rw[decide_eq_true b1];rfl
        ·by_cases b2:255<xs.getD 2 0
         ·rw[decide_eq_true b2,Bool.true_or,Bool.or_true]
         ·rw[decide_eq_true (show 255<xs.getD 3 0 by omega),Bool.or_true,Bool.or_true]
       ·exact .inr (.inr (.inr (.inl ⟨by omega,a2,a4⟩)))
   have cC:=fun (h4:4≤n) H a' c' {vs} [RdC G H a' vs] (hv:vs=ints ((xs.drop 1).take 3))=>cC H a' c' hv (by omega)
   have cB1:=fun H=>cB H (xs.getD 1 0)
   clear h2 h4 hx HB hm
   have hx0:=hix 0
   have hx1:=hix 1
   have hpc:=Aa0 xs 1 3 1 4 rfl rfl
   generalize xs.getD 0 0=x0 at *
   generalize xs.getD 1 0=x1 at *
   rcases hcs with h|⟨h,rfl,hB⟩|⟨h,h',h5⟩|⟨h,h5,h6⟩|⟨h,rfl,hA⟩
   ·clear cC cB1 hix hpc
    refine P8 Tryz.func257 O O O O O ?_
    repeat' (first|(apply E8;first|(apply A8;refine A9 ?_)|(apply C8;refine D7 O O ?_)|(apply E5;refine F7 O O O ?_;refine F9 O ?_)|(apply D5;refine D9 O O ?_)|(apply I6;refine J4 O O ?_;apply M6;refine M7 O ?_)|(apply K5;refine s_call (S9 O O) O ?_)|(apply I5;refine J9 O O O O ?_;first|(apply H7)|(apply E9<;>intro hq<;>(try (exfalso;omega)))))|(apply D6)|(apply G8)|(apply I4)|(apply F3)|(apply A7)|(refine G5 O ?_;apply H7)|(apply C9)|(apply H9))
    all_goals (refine N7 (by (exact .inr O)) O O0 ?_;rfl)
   ·rw[hB] at cB1
    clear cC hix hpc
    refine P8 Tryz.func257 O O O O O ?_
    repeat' (first|(apply E8;first|(apply A8;refine A9 ?_)|(apply C8;refine D7 O O ?_)|(apply E5;refine F7 O O O ?_;refine F9 O ?_)|(apply F5;refine F8 O O ?_;first|refine X8 (hx0 (by omega)) ?_ |refine X8 (hx1 (by omega)) ?_)|(apply D5;refine D9 O O ?_)|(apply I6;refine J4 O O ?_;first|(apply P7;refine P6 O ?_)|(apply M6;refine M7 O ?_))|(apply X5;refine Z9 (Z8 O O O) O ?_)|(apply M4;refine M8 (K7 O O O hlx (by omega) (by omega)) O ?_)|(apply K5;refine s_call (S9 O O) O ?_)|(apply I5;refine J9 O O O O ?_;first|(apply I1)|(apply H7)|(apply E9<;>intro hq<;>(try (exfalso;omega))))|(refine AH8 O O O O (cB1 _) O O ?_))|(apply D6)|(apply G8)|(apply I4)|(apply F3)|(apply A7)|(refine G5 O ?_;apply H7)|(apply C9)|(apply H9))
    all_goals (refine N7 (by (exact .inr O)) O O0 ?_;rfl)
   ·clear cC cB1 hix hpc
    refine P8 Tryz.func257 O O O O O ?_
    repeat' (first|(apply E8;first|(apply A8;refine A9 ?_)|(apply C8;refine D7 O O ?_)|(apply E5;refine F7 O O O ?_;refine F9 O ?_)|(apply F5;refine F8 O O ?_;refine X8 (hx0 (by omega)) ?_)|(apply D5;refine D9 O O ?_)|(apply I6;refine J4 O O ?_;first|(apply P7;refine P6 O ?_)|(apply M6;refine M7 O ?_))|(apply M4;refine M8 (K7 O O O hlx (by omega) (by omega)) O ?_)|(apply K5;refine s_call (S9 O O) O ?_)|(apply I5;refine J9 O O O O ?_;first|(apply I1)|(apply H7)|(apply E9<;>intro hq<;>(try (exfalso;omega)))))|(apply D6)|(apply G8)|(apply I4)|(apply F3)|(apply A7)|(refine G5 O ?_;apply H7)|(apply C9)|(apply H9))
    all_goals (refine N7 (by (exact .inr O)) O O0 ?_;rfl)
   ·clear cC cB1 hix hpc
    refine P8 Tryz.func257 O O O O O ?_
    repeat' (first|(apply E8;first|(apply A8;refine A9 ?_)|(apply C8;refine D7 O O ?_)|(apply E5;refine F7 O O O ?_;refine F9 O ?_)|(apply F5;refine F8 O O ?_;refine X8 (hx0 (by omega)) ?_)|(apply D5;refine D9 O O ?_)|(apply I6;refine J4 O O ?_;first|(apply P7;refine P6 O ?_)|(apply M6;refine M7 O ?_))|(apply M4;refine M8 (K7 O O O hlx (by omega) (by omega)) O ?_)|(apply K5;refine s_call (S9 O O) O ?_)|(apply I5;refine J9 O O O O ?_;first|(apply I1)|(apply H7)|(apply E9<;>intro hq<;>(try (exfalso;omega)))))|(apply D6)|(apply G8)|(apply I4)|(apply F3)|(apply A7)|(refine G5 O ?_;apply H7)|(apply C9)|(apply H9))
    all_goals (refine N7 (by (exact .inr O)) O O0 ?_;rfl)
   ·have cC:=cC h
    rw[hA] at cC
    clear cB1 hix hA
    refine P8 Tryz.func257 O O O O O ?_
    repeat' (first|(apply E8;first|(apply A8;refine A9 ?_)|(apply C8;refine D7 O O ?_)|(apply E5;refine F7 O O O ?_;refine F9 O ?_)|(apply F5;refine F8 O O ?_;refine X8 (hx0 (by omega)) ?_)|(apply D5;refine D9 O O ?_)|(apply I6;refine J4 O O ?_;first|(apply P7;refine P6 O ?_)|(apply M6;refine M7 O ?_))|(apply X5;refine Z9 (Z8 O O O) O ?_)|(apply M4;refine M8 (K7 O O O hlx (by omega) (by omega)) O ?_)|(apply H5;refine H6 O O O (cC _ _ _ hpc) O O ?_)|(apply K5;refine s_call (S9 O O) O ?_)|(apply r9;refine AH5 (Hr:=H) O O O O O RdC.here hlx (by omega) (by omega) (by omega) (by omega) O O (fun _ _=>?_))|(apply I5;refine J9 O O O O ?_;first|(apply I1)|(apply H7)|(apply E9<;>intro hq<;>(try (exfalso;omega)))))|(apply D6)|(apply G8)|(apply I4)|(apply F3)|(apply A7)|(refine G5 O ?_;apply H7)|(apply C9)|(apply H9))
    all_goals (refine N7 (by (exact .inr O)) O O0 ?_;rfl)
theorem Ac5 (n:Int):0≤flagI n∧flagI n≤128:=by
 unfold flagI
 rcases Nat.lt_or_ge n.toNat 10 with h|h
 ·match n.toNat,h with
  | 0,_|1,_|2,_|3,_|4,_|5,_|6,_|7,_|8,_|9,_=>decide
 ·rw[List.getD_eq_getElem?_getD,List.getElem?_eq_none (by simpa using h)];decide
theorem Bn2 (n:Int):((An8 n.toNat:Nat):Int)=flagI n:=by
 unfold flagI An8
 rcases Nat.lt_or_ge n.toNat 10 with h|h
 ·match n.toNat,h with
  | 0,_|1,_|2,_|3,_|4,_|5,_|6,_|7,_|8,_|9,_=>rfl
 ·rw[List.getD_eq_getElem?_getD,List.getD_eq_getElem?_getD,List.getElem?_eq_none (by simpa using h),List.getElem?_eq_none (by simpa using h)];rfl
theorem Bd5 (G:Ctx) (H:List Ent) (n:Int) (h:0≤n∧n<10):SV Tryz.prog G 121 [.int .i64 n] H (.int .i64 (flagI n)):=by
 have:=B33 G H n.toNat (by omega)
 rw[Bn2,Int.toNat_of_nonneg h.1] at this
 exact this
end
section
attribute [local irreducible] SW SL SQ AtQ SV SC BB LD PK Yields SO SOT SOA SY SP SPT SPA flagI
theorem BP1 (G:Ctx) (H:List Ent) (b:Nat) (fl fo ba n:Int) (hf:0≤fl∧fl≤255) (hn:0≤n∧n≤16383) (h38:n≠38) (h48:n≠48):SC Tryz.prog G 256 [.pointer (some ⟨b,0,none⟩),.int .i64 n] (.blk b 31 [.int .i64 fl,.int .i64 fo,.int .i64 ba]::H)
 (fun v H'=>v= .tuple #[]∧H'= .blk b 31 [.int .i64 (oneP (fl,fo,ba) n).1,.int .i64 (oneP (fl,fo,ba) n).2.1,.int .i64 (oneP (fl,fo,ba) n).2.2]::H):=by
 have cF:=fun H n h=>Bd5 G H n h
 have hfb:=Ac5 n
 have hfb2:=Ac5 (n-20)
 obtain⟨u1,u2⟩:=hfb
 obtain⟨u3,u4⟩:=hfb2
 obtain⟨f1,f2⟩:=hf
 obtain⟨n1,n2⟩:=hn
 have a1:n-40-60+9=n-91:=by omega
 have a2:n-30-60+9=n-81:=by omega
 have a3:n-40+1=n-39:=by omega
 have a4:n-30+1=n-29:=by omega
 have A1:=Lib.hid a1
 have A2:=Lib.hid a2
 have A3:=Lib.hid a3
 have A4:=Lib.hid a4
 clear a1 a2 a3 a4
 refine I7 Tryz.func256 O O O O O ?_
 repeat' (first|(apply E8;first|(apply A8;refine A9 ?_)|(apply C8;refine D7 O O ?_)|(apply E5;refine F7 O O O ?_;first|(apply K9;refine L6 ⟨by omega,by omega⟩ ?_)|(apply U8;refine V4 ⟨by omega,by omega⟩ ?_)|(apply Af5;refine Ae5 (by (omega)) (by (omega)) (by (omega)) (by (omega)) ?_)|refine F9 O ?_)|(apply F5;refine F8 O O ?_;refine F4 O ?_)|(apply D5;refine D9 O O ?_)|(apply I6;refine J4 O O ?_;first|(apply P7;refine P6 O ?_)|(apply M6;refine M7 O ?_))|(apply G6;refine G7 (D8 O O) O ?_)|(apply U0;refine U6 (Q9 O O O) O ?_)|(apply I9;refine J7 (F6 O O) O ?_)|(apply H5;refine H6 O O O (cF _ _ ⟨by omega,by omega⟩) O O ?_)|(apply H8;first|refine M9 O O O O O O O ?_ |refine Q8 O O O O O O O O ?_)|(apply I5;first|(refine J9 O O O O ?_;first|(apply I1)|(apply H7)|(apply d9)|(apply E9<;>intro hq<;>(try (exfalso;omega)))|(apply P5<;>intro hq<;>(try (exfalso;omega))))|refine o8 O O O O O O ?_))|(apply Q0;refine N8 (k:=0) J3 ?_)|(apply U3;first|(refine L8 O ?_)|(refine O4 O O O O (by kernel_rfl) (by decide+kernel) (by decide+kernel) ?_;first|(apply O1;refine G9 (P9 O O) ?_)|(apply AG6;refine AG7 O O ?_;first|(apply U8;refine V4 ⟨by omega,by omega⟩ ?_)|(apply Bp6;refine Bp5 (by (omega)) (by (omega)) (by (omega)) (by (omega)) ?_)|(apply Af5;refine Ae5 (by (omega)) (by (omega)) (by (omega)) (by (omega)) ?_))|(apply M3;refine G9 (D8 O O) ?_)|(apply R5;refine G9 (F6 O O) ?_))|(refine O5 O ?_)|(refine N9 (by decide+kernel) ?_)|(refine Q6 (by kernel_rfl) ?_))|(apply V3;first|(refine Q5 O)|(refine U1 (by decide+kernel) ?_)|(refine Q3 O ?_ ?_))|(apply D6)|(apply G8)|(apply F3)|(apply A7)|(refine G5 O ?_;first|(apply I1)|(apply H7)|(apply E9<;>intro hq<;>(try (exfalso;omega))))|(apply C9)|(apply H9)|(first|(refine J5 (id:=6) ?_;refine Z6 (H) J3 ?_)|(refine J5 (id:=10) ?_;refine Z6 (H) J3 ?_)))
 all_goals
  clear cF
  refine AI9 (_::H) (by (exact .inl O)) O (List.Sublist.refl _) ?_
  refine⟨O,?_⟩
  unfold oneP
  simp (disch:=omega) only[if_pos,if_neg,A1.out,A2.out,A3.out,A4.out]
  try rfl
end
section
attribute [local irreducible] SW SL SQ AtQ SV SC BB LD PK Yields SO SOT SOA SY SP SPT SPA
theorem Bl6 (xs:List Int) (j:Nat) (hj:j<xs.length):mxL (xs.take (j+1))=mxL (xs.take j)++[max (xs.getD j 0) 0]:=by
 unfold mxL
 rw[List.take_succ_eq_append_getElem hj,List.map_append,List.getD_eq_getElem?_getD,List.getElem?_eq_getElem hj]
 rfl
def sgrV (fl fo ba:Int) (L:List Int):Value:=
 if penB fl fo ba=false then .tuple #[penV fl fo ba,.int .i64 4]
 else if L.length=0∨L.any AD9=true then .tuple #[penV fl fo ba,.int .i64 1]
 else if 32<L.length then .tuple #[penV fl fo ba,.int .i64 2]
 else .tuple #[penV (sgrL (fl,fo,ba) L).1 (sgrL (fl,fo,ba) L).2.1 (sgrL (fl,fo,ba) L).2.2,.int .i64 0]
theorem CC1:∀a b:Int,0≤a∧a≤255→0≤b∧b≤255→0≤ior a b∧ior a b≤255:=fun a b ⟨h1,h2⟩ ⟨h3,h4⟩=>by
 rw[A28]
 have:a.toNat|||b.toNat<2 ^ 8:=Nat.or_lt_two_pow (by omega) (by omega)
 omega
theorem Bj8:∀a b:Int,0≤a∧a≤255→0≤iclr a b∧iclr a b≤255:=fun a b ⟨h1,h2⟩=>by
 have:=BZ9 a b 256 h1 (by omega)
 exact⟨BE8 _ _,by omega⟩
theorem BF3 (t:Tri) (n:Int) (h:0≤t.1∧t.1≤255):0≤(oneP t n).1∧(oneP t n).1≤255:=by
 have h1:=Ac5 n
 have h2:=Ac5 (n-20)
 unfold oneP
 repeat' split
 all_goals (first|exact h|exact⟨by decide,by decide⟩|exact CC1 _ _ h ⟨h1.1,by omega⟩|exact Bj8 _ _ h)
theorem BJ8 (G:Ctx) (H:List Ent) (fl fo ba:Int) (xs:List Int) {vs:List Value} (a:Option Addr) (n c:Nat) [h1:RdC G H a vs] (hv:vs=ints xs) (hn:n=xs.length) (hm:xs.length≤maxLen):SV Tryz.prog G 217 [penV fl fo ba,.slice a n c] H (sgrV fl fo ba xs):=by
 subst hv
 have c1:=fun H=>AN8 G H fl fo ba
 have c2:=fun H {vs:List Value} [RdC G H a vs] (hv:vs=ints xs)=>Ad0 G H 255 AD9 xs a n c hv hn hm (fun H x _=>Bb3 G H x)
 unfold sgrV
 cases hp:penB fl fo ba
 ·rw[hp] at c1
  rw[if_pos rfl]
  refine R3 Tryz.func217 O O O O O ?_
  repeat' (first|(apply E8;first|(apply A8;refine A9 ?_)|(apply C8;refine D7 O O ?_)|(apply E5;refine F7 O O O ?_;refine F9 O ?_)|(apply F5;refine F8 O O ?_;refine M5 O ?_)|(apply D5;refine D9 O O ?_)|(apply H5;refine H6 O O O (c1 _) O O ?_)|(apply H8;refine Q8 O O O O O O O O ?_)|(apply K6;refine L9 O O O O O O (fun _=>?_))|(apply O6;refine Q4 O O O O (fun _=>?_)))|(apply D6)|(apply I4)|(apply A7)|(refine G5 O ?_;apply I1)|(apply C9)|(apply J8))
  all_goals (refine AB4 H (by (exact .inr O)) O O O J3 ?_;exact⟨O,O⟩)
 ·rw[hp] at c1
  rw[if_neg (by decide)]
  by_cases h2:xs.length=0∨xs.any AD9=true
  ·rw[if_pos h2]
   rw[←hn] at h2
   generalize xs.any AD9=B at *
   rcases h2 with rfl|rfl
   ·refine R3 Tryz.func217 O O O O O ?_
    repeat' (first|(apply E8;first|(apply A8;refine A9 ?_)|(apply C8;refine D7 O O ?_)|(apply E5;refine F7 O O O ?_;refine F9 O ?_)|(apply F5;refine F8 O O ?_;refine M5 O ?_)|(apply D5;refine D9 O O ?_)|(apply I6;refine J4 O O ?_;apply P7;refine P6 O ?_)|(apply H5;refine H6 O O O (c1 _) O O ?_)|(apply K5;refine s_call (S9 O O) O ?_)|(apply H8;refine Q8 O O O O O O O O ?_)|(apply K6;refine L9 O O O O O O (fun _=>?_))|(apply O6;refine Q4 O O O O (fun _=>?_))|(apply I5;refine J9 O O O O ?_;apply d9))|(apply D6)|(apply G8)|(apply I4)|(apply A7)|(refine G5 O ?_;first|(apply I1)|(apply H7))|(apply C9)|(apply J8))
    all_goals (refine AB4 H (by (exact .inr O)) O O O J3 ?_;exact⟨O,O⟩)
   ·refine R3 Tryz.func217 O O O O O ?_
    repeat' (first|(apply E8;first|(apply A8;refine A9 ?_)|(apply C8;refine D7 O O ?_)|(apply E5;refine F7 O O O ?_;refine F9 O ?_)|(apply F5;refine F8 O O ?_;refine M5 O ?_)|(apply D5;refine D9 O O ?_)|(apply I6;refine J4 O O ?_;first|(apply P7;refine P6 O ?_)|(apply M6;refine M7 O ?_))|(apply H5;first|refine H6 O O O (c1 _) O O ?_ |refine H6 O O O (c2 _ O) O O ?_)|(apply K5;refine s_call (S9 O O) O ?_)|(apply H8;refine Q8 O O O O O O O O ?_)|(apply K6;refine L9 O O O O O O (fun _=>?_))|(apply O6;refine Q4 O O O O (fun _=>?_))|(apply I5;refine J9 O O O O ?_;first|(apply I1)|(apply d9)|(apply P5<;>intro hq<;>(try (exfalso;omega)))))|(apply D6)|(apply G8)|(apply I4)|(apply A7)|(refine G5 O ?_;first|(apply I1)|(apply H7))|(apply C9)|(apply J8))
    all_goals (refine AB4 H (by (exact .inr O)) O O O J3 ?_;exact⟨O,O⟩)
  ·rw[if_neg h2]
   have hB:xs.any AD9=false:=by
    rw[←Bool.not_eq_true];exact fun h=>h2 (.inr h)
   have hn0:n≠0:=by rw[hn];exact fun h=>h2 (.inl h)
   rw[hB] at c2
   clear h2
   by_cases h3:32<xs.length
   ·rw[if_pos h3]
    rw[←hn] at h3
    refine R3 Tryz.func217 O O O O O ?_
    repeat' (first|(apply E8;first|(apply A8;refine A9 ?_)|(apply C8;refine D7 O O ?_)|(apply E5;refine F7 O O O ?_;refine F9 O ?_)|(apply F5;refine F8 O O ?_;refine M5 O ?_)|(apply D5;refine D9 O O ?_)|(apply I6;refine J4 O O ?_;apply M6;refine M7 O ?_)|(apply H5;first|refine H6 O O O (c1 _) O O ?_ |refine H6 O O O (c2 _ O) O O ?_)|(apply K5;refine s_call (S9 O O) O ?_)|(apply H8;refine Q8 O O O O O O O O ?_)|(apply K6;refine L9 O O O O O O (fun _=>?_))|(apply O6;refine Q4 O O O O (fun _=>?_))|(apply I5;refine J9 O O O O ?_;first|(apply I1)|(apply P5<;>intro hq<;>(try (exfalso;omega)))))|(apply D6)|(apply G8)|(apply I4)|(apply A7)|(refine G5 O ?_;first|(apply H7)|(apply E9<;>intro hq<;>(try (exfalso;omega))))|(apply C9)|(apply J8))
    all_goals (refine AB4 H (by (exact .inr O)) O O O J3 ?_;exact⟨O,O⟩)
   ·rw[if_neg h3]
    rw[←hn] at h3
    refine R3 Tryz.func217 O O O O O ?_
    repeat' (first|(apply E8;first|(apply A8;refine A9 ?_)|(apply C8;refine D7 O O ?_)|(apply E5;refine F7 O O O ?_;refine F9 O ?_)|(apply F5;refine F8 O O ?_;refine M5 O ?_)|(apply D5;refine D9 O O ?_)|(apply I6;refine J4 O O ?_;apply M6;refine M7 O ?_)|(apply H5;first|refine H6 O O O (c1 _) O O ?_ |refine H6 O O O (c2 _ O) O O ?_)|(apply K5;refine s_call (S9 O O) O ?_)|(apply K6;refine L9 O O O O O O (fun _=>?_))|(apply O6;refine Q4 O O O O (fun _=>?_))|(apply I5;refine J9 O O O O ?_;first|(apply I1)|(apply P5<;>intro hq<;>(try (exfalso;omega)))))|(apply D6)|(apply G8)|(apply F3)|(apply A7)|(refine G5 O ?_;first|(apply H7)|(apply E9<;>intro hq<;>(try (exfalso;omega))))|(apply C9))
    rename_i b2 b4 _
    have hall:∀x∈xs,-1≤x∧x≤16383:=fun x hx=>by
     have:AD9 x=false:=by
      rw[←Bool.not_eq_true]
      intro ho
      have:=List.any_eq_true.2 ⟨x,hx,ho⟩
      rw[hB] at this
      cases this
     unfold AD9 at this
     have:=of_decide_eq_false this
     omega
    have hfl:0≤fl∧fl≤255:=by rw[AR1] at hp;exact hp.1
    have hix:∀k:Nat,k<n→(ints xs)[(k:Int).toNat * 1]? =some (.int .i64 (xs.getD k 0)):=fun k hk=>ints_at xs k (by rw[←hn];exact hk)
    have hlx:(ints xs).length=n * 1:=by simp [ints,hn]
    have hbx:=fun k (hk:k<n)=>hall _ (Al1 (xs:=xs) (j:=k) (by rw[←hn];exact hk))
    have htk:=fun j (hj:j<n)=>Bl6 xs j (by rw[←hn];exact hj)
    have hlj:=fun j (hj:j≤n)=>show (mxL (xs.take j)).length=j from by rw[Ah2,List.length_take,←hn];omega
    have Hix:=Lib.hid hix
    have Hbx:=Lib.hid hbx
    have Htk:=Lib.hid htk
    have Hlj:=Lib.hid hlj
    have Hn:=Lib.hid hn
    have Hall:=Lib.hid hall
    clear hix hbx htk hlj hn hall hB hp c1 c2 hm
    refine R7 (α:=Nat×Option Addr×Nat) (fun g=>[(2,.pointer (some ⟨b2,0,none⟩)),(4,.pointer (some ⟨b4,0,none⟩)),(7,.slice g.2.1 g.1 g.2.2),(31,.slice a n c),(32,.int .i64 n),(33,.int .i64 g.1)])
     (fun g=> .own 3 1 g.2.1 g.1 g.2.2 (ints (mxL (xs.take g.1))):: .blk b4 31 [.int .i64 0,.int .i64 0,.int .i64 0]:: .blk b2 31 [.int .i64 fl,.int .i64 fo,.int .i64 ba]::H)
     (fun g=>g.1≤n) (fun g=>n-g.1) (0,none,0) (Nat.zero_le _) Q7 (fun _ hw=>(hw.nilrow _ _).subs (by repeat (first|refine Subs.cons (by repeat constructor) ?_ |exact Subs.sub O0))) ?_
    rintro ⟨j,aj,cj⟩ hj
    dsimp only at hj ⊢
    by_cases hlt:(j:Int)<n
    ·have hxj:=Hix.out j (by omega)
     have htj:=Htk.out j (by omega)
     have hlj:=Hlj.out j (by omega)
     generalize hxx:xs.getD j 0=x at *
     generalize hMj:mxL (xs.take j)=M at *
     have hlM:(ints M).length=j * 1:=by simp [ints,hlj]
     repeat' (first|(apply E8;first|(apply A8;refine A9 ?_)|(apply C8;refine D7 O O ?_)|(apply E5;refine F7 O O O ?_;first|(apply K9;refine L6 ⟨by omega,by omega⟩ ?_)|refine F9 O ?_)|(apply F5;refine F8 O O ?_;refine X8 hxj ?_)|(apply D5;refine D9 O O ?_)|(apply M4;refine M8 (K7 O O O hlx (by omega) (by omega)) O ?_)|(apply K5;first|(refine s_call (AS6 O O O) O ?_)|refine U9 O O O O (by (rfl)) (by (rfl)) (by omega) O O (fun _ _=>?_))|(apply j3;refine R8 O O O O O O O O O O (fun _=>?_)))|(apply D6)|(apply G8)|(apply F3)|(apply A7)|(refine G5 O ?_;apply E9<;>intro hq<;>(try (exfalso;omega)))|(apply C9)|(apply H9))
     rename_i _ a' c'
     refine J6 (j+1,a',c') ⟨by show j+1≤n;omega,by show n-(j+1)<n-j;omega⟩ ?_ ?_
     ·exact Q7
     ·dsimp only
      rw[htj,show ints (M++[max x 0])=ints M++[.int .i64 (max x 0)] from by simp [ints]]
      exact J3
    ·obtain rfl:j=n:=by omega
     have htl:xs.take j=xs:=by rw[List.take_of_length_le (by rw[←Hn.out];exact Nat.le_refl _)]
     rw[htl]
     have hMn:(mxL xs).length=j:=by rw[Ah2,←Hn.out]
     have hMx:∀k,k<j→(ints (mxL xs))[(k:Int).toNat * 1]? =some (.int .i64 (max (xs.getD k 0) 0)):=fun k hk=>by rw[ints_at _ k (by omega),Ak7]
     have hlM:(ints (mxL xs)).length=j * 1:=by simp [ints,hMn]
     have hE:=fun (i:Nat) (hi:i≤j) (H:List Ent) (a':Option Addr) (c':Nat) {vs:List Value} [RdC G H a' vs] (hv:vs=ints ((mxL xs).drop i)) (hc:j-i≤c')=>BC6 G H ((mxL xs).drop i) a' (j-i) c' hv (by rw[List.length_drop,hMn]) (by rw[List.length_drop,hMn];omega) hc (fun x hx=>by
      obtain⟨y,hy,rfl⟩:=List.mem_map.1 (List.mem_of_mem_drop hx)
      have:=Hall.out y hy
      exact⟨by omega,by omega⟩)
     have hpc:=fun (i:Nat) (h:i≤j)=>show ((ints (mxL xs)).drop ((i:Int).toNat * 1)).take (((j:Int).toNat-(i:Int).toNat) * 1)=ints ((mxL xs).drop i) from by
      rw[Aa0 (mxL xs) i (j-i) i j rfl (by omega),List.take_of_length_le (by rw[List.length_drop,hMn];exact Nat.le_refl _)]
     have hdr:=fun i (hi:i<j)=>show (mxL xs).drop i=max (xs.getD i 0) 0::(mxL xs).drop (i+1) from by
      rw[List.drop_eq_getElem_cons (by omega),←Ak7,List.getD_eq_getElem?_getD,List.getElem?_eq_getElem (by omega:i<(mxL xs).length)];rfl
     have hfin:sgrL (fl,fo,ba) xs=sgrL (fl,fo,ba) (mxL xs):=(Bx7 _ _).symm
     rw[hfin]
     have hnil:(mxL xs).drop j=[]:=List.drop_eq_nil_of_le (by omega)
     generalize mxL xs=M at *
     have HE:=Lib.hid hE
     have Hpc:=Lib.hid hpc
     have Hdr:=Lib.hid hdr
     have HMx:=Lib.hid hMx
     have Hnil:=Lib.hid hnil
     clear hE hpc hdr hMx hnil htl hfin hlx Hix Hall Htk Hlj
     repeat' (first|(apply E8;first|(apply A8;refine A9 ?_)|(apply E5;refine F7 O O O ?_;refine F9 O ?_)|(apply D5;refine D9 O O ?_))|(apply D6)|(apply O7)|(apply F3)|(apply A7)|(refine G5 O ?_;apply E9<;>intro hq<;>(try (exfalso;omega)))|(apply C9)|(apply K3)|(apply K4))
     refine R7 (α:=Nat×Int×Int×Int) (fun g=>[(2,.pointer (some ⟨b2,0,none⟩)),(4,.pointer (some ⟨b4,0,none⟩)),(7,.slice aj j cj),(10,.int .i64 g.1)])
      (fun g=> .own 3 1 aj j cj (ints M):: .blk b4 31 [.int .i64 0,.int .i64 0,.int .i64 0]:: .blk b2 31 [.int .i64 g.2.1,.int .i64 g.2.2.1,.int .i64 g.2.2.2]::H)
      (fun g=>g.1≤j∧(0≤g.2.1∧g.2.1≤255)∧sgrL (g.2.1,g.2.2.1,g.2.2.2) (M.drop g.1)=sgrL (fl,fo,ba) M) (fun g=>j-g.1) (0,fl,fo,ba) ⟨Nat.zero_le _,hfl,by rw[List.drop_zero]⟩ Q7 J3 ?_
     rintro ⟨i,tl,tf,tb⟩ ⟨hi,hfi,hs⟩
     dsimp only at hi hfi hs ⊢
     by_cases hlt2:(i:Int)<j
     ·have hcell:=HMx.out i (by omega)
      have hb:=Hbx.out i (by omega)
      rw[Hdr.out i (by omega),Ba4] at hs
      have hm1:0≤max (xs.getD i 0) 0:=by omega
      have hm2:max (xs.getD i 0) 0≤16383:=by omega
      generalize max (xs.getD i 0) 0=m at *
      rw[show max m 0=m from by omega] at hs
      by_cases hm:m=38∨m=48
      ·rw[if_pos hm] at hs
       have hpi:=Hpc.out (i+1) (by omega)
       have hEi:=HE.out (i+1) (by omega)
       have h2:=BU8 (M.drop (i+1))
       rw[List.length_drop] at h2
       generalize hq:extL (M.drop (i+1))=q at *
       obtain⟨cc,kk⟩:=q
       refine BH2 fun w hw=>?_
       have hcap:=(inferInstance:CapC G (.own 3 1 aj j cj (ints M):: .blk b4 31 [.int .i64 0,.int .i64 0,.int .i64 0]:: .blk b2 31 [.int .i64 tl,.int .i64 tf,.int .i64 tb]::H) aj j cj).here w hw
       clear hw
       dsimp only at hs h2
       have hdd:∀k,(M.drop (i+1)).drop k=M.drop (i+1+k):=fun k=>by rw[List.drop_drop]
       have Hs:=Lib.hid hs
       have Hdd:=Lib.hid hdd
       have hcc:((j:Int).toNat-((i:Int)+1).toNat)=j-(i+1):=by omega
       have cE:=fun (H:List Ent) (a':Option Addr) (c':Nat) {vs:List Value} [RdC G H a' vs] (hv:vs=ints (M.drop (i+1))) (hc:j-(i+1)≤c')=>hEi H a' c' hv hc
       have hpi':((ints M).drop (((i:Int)+1).toNat * 1)).take (((j:Int).toNat-((i:Int)+1).toNat) * 1)=ints (M.drop (i+1)):=hpi
       have cE':=fun (H:List Ent) (a':Option Addr) (c':Nat) {vs:List Value} [RdC G H a' vs] (hv:vs=ints (M.drop (i+1))) (hc:j-(i+1)≤c')=>show SV Tryz.prog G 257 [.slice a' ((j:Int).toNat-((i:Int)+1).toNat) c'] H (.tuple #[.int .i64 cc,.int .i64 kk]) from by
        have:=cE H a' c' hv hc
        rw[hcc];exact this
       clear hs hdd HE Hpc Hdr HMx hEi hpi cE hq
       have fin:kk=0→sgrL (fl,fo,ba) M=(tl,tf,tb):=fun e=>by have:=Hs.out;rw[if_pos e] at this;exact this.symm
       have nxt:¬kk=0→sgrL (setC (tl,tf,tb) m cc) (M.drop (i+1+kk))=sgrL (fl,fo,ba) M:=fun e=>by have:=Hs.out;rw[if_neg e,Hdd.out] at this;exact this
       have Fin:=Lib.hid fin
       have Nxt:=Lib.hid nxt
       clear fin nxt Hs Hdd
       rcases h2 with h2|⟨h2,h4⟩|⟨h2,h4⟩
       ·subst h2
        have fin:=Fin.out rfl
        rw[fin]
        clear fin Fin Nxt
        rcases hm with rfl|rfl
        all_goals
         repeat' (first|(apply E8;first|(apply A8;refine A9 ?_)|(apply C8;refine D7 O O ?_)|(apply E5;refine F7 O O O ?_;first|(apply K9;refine L6 ⟨by omega,by omega⟩ ?_)|refine F9 O ?_)|(apply F5;first|(refine F8 O O ?_;refine M5 O ?_)|(refine F8 O O ?_;refine X8 hcell ?_))|(apply D5;refine D9 O O ?_)|(apply I6;refine J4 O O ?_;first|(apply P7;refine P6 O ?_)|(apply M6;refine M7 O ?_))|(apply U7;refine X7 (M0 O O O) O ?_)|(apply M4;refine M8 (K7 O O O hlM (by omega) (by omega)) O ?_)|(apply H5;refine H6 O O O (cE' _ _ _ hpi' (by omega)) O O ?_)|(apply K5;refine s_call (S9 O O) O ?_)|(apply H8;refine Q8 O O O O O O O O ?_)|(apply r9;refine AH5 (Hr:= .own 3 1 aj j cj (ints M):: .blk b4 31 [.int .i64 0,.int .i64 0,.int .i64 0]:: .blk b2 31 [.int .i64 tl,.int .i64 tf,.int .i64 tb]::H) O O O O O RdC.here hlM (by omega) (by omega) (by omega) (by omega) O O (fun _ _=>?_))|(apply I5;refine J9 O O O O ?_;first|(apply I1)|(apply H7)))|(apply D6)|(apply G8)|(apply I4)|(apply O7)|(apply F3)|(apply A7)|(refine G5 O ?_;first|(apply I1)|(apply H7)|(apply E9<;>intro hq<;>(try (exfalso;omega))))|(apply C9)|(apply K3)|(apply K4)|refine AK6 O ?_)
         refine AB4 H (by (exact .inr O)) O O O J3 ?_;exact⟨O,O⟩
       all_goals
        subst h2
        have nxt:=Nxt.out (by decide)
        clear Fin Nxt
        rcases hm with rfl|rfl
       ·repeat' (first|(apply E8;first|(apply A8;refine A9 ?_)|(apply C8;refine D7 O O ?_)|(apply E5;refine F7 O O O ?_;first|(apply K9;refine L6 ⟨by omega,by omega⟩ ?_)|refine F9 O ?_)|(apply F5;refine F8 O O ?_;refine X8 hcell ?_)|(apply D5;refine D9 O O ?_)|(apply I6;refine J4 O O ?_;apply M6;refine M7 O ?_)|(apply G6;refine G7 (D8 O O) O ?_)|(apply U7;refine X7 (M0 O O O) O ?_)|(apply M4;refine M8 (K7 O O O hlM (by omega) (by omega)) O ?_)|(apply H5;refine H6 O O O (cE' _ _ _ hpi' (by omega)) O O ?_)|(apply K5;refine s_call (S9 O O) O ?_)|(apply H8;refine M9 O O O O O O O ?_)|(apply r9;refine AH5 (Hr:= .own 3 1 aj j cj (ints M):: .blk b4 31 [.int .i64 0,.int .i64 0,.int .i64 0]:: .blk b2 31 [.int .i64 tl,.int .i64 tf,.int .i64 tb]::H) O O O O O RdC.here hlM (by omega) (by omega) (by omega) (by omega) O O (fun _ _=>?_))|(apply I5;refine J9 O O O O ?_;apply H7))|(apply D6)|(apply G8)|(apply F3)|(apply A7)|(refine G5 O ?_;first|(apply I1)|(apply H7)|(apply E9<;>intro hq<;>(try (exfalso;omega))))|(apply C9)|(apply H9))
        exact J6 (i+1+2,tl,cc,tb) ⟨⟨by show i+1+2≤j;omega,hfi,nxt⟩,by show j-(i+1+2)<j-i;omega⟩ Q7 J3
       ·repeat' (first|(apply E8;first|(apply A8;refine A9 ?_)|(apply C8;refine D7 O O ?_)|(apply E5;refine F7 O O O ?_;first|(apply K9;refine L6 ⟨by omega,by omega⟩ ?_)|refine F9 O ?_)|(apply F5;refine F8 O O ?_;refine X8 hcell ?_)|(apply D5;refine D9 O O ?_)|(apply I6;refine J4 O O ?_;apply P7;refine P6 O ?_)|(apply G6;refine G7 (D8 O O) O ?_)|(apply U7;refine X7 (M0 O O O) O ?_)|(apply M4;refine M8 (K7 O O O hlM (by omega) (by omega)) O ?_)|(apply H5;refine H6 O O O (cE' _ _ _ hpi' (by omega)) O O ?_)|(apply K5;refine s_call (S9 O O) O ?_)|(apply H8;refine M9 O O O O O O O ?_)|(apply r9;refine AH5 (Hr:= .own 3 1 aj j cj (ints M):: .blk b4 31 [.int .i64 0,.int .i64 0,.int .i64 0]:: .blk b2 31 [.int .i64 tl,.int .i64 tf,.int .i64 tb]::H) O O O O O RdC.here hlM (by omega) (by omega) (by omega) (by omega) O O (fun _ _=>?_))|(apply I5;refine J9 O O O O ?_;apply I1))|(apply D6)|(apply G8)|(apply F3)|(apply A7)|(refine G5 O ?_;first|(apply H7)|(apply E9<;>intro hq<;>(try (exfalso;omega))))|(apply C9)|(apply H9))
        exact J6 (i+1+2,tl,tf,cc) ⟨⟨by show i+1+2≤j;omega,hfi,nxt⟩,by show j-(i+1+2)<j-i;omega⟩ Q7 J3
       ·repeat' (first|(apply E8;first|(apply A8;refine A9 ?_)|(apply C8;refine D7 O O ?_)|(apply E5;refine F7 O O O ?_;first|(apply K9;refine L6 ⟨by omega,by omega⟩ ?_)|refine F9 O ?_)|(apply F5;refine F8 O O ?_;refine X8 hcell ?_)|(apply D5;refine D9 O O ?_)|(apply I6;refine J4 O O ?_;apply M6;refine M7 O ?_)|(apply G6;refine G7 (D8 O O) O ?_)|(apply U7;refine X7 (M0 O O O) O ?_)|(apply M4;refine M8 (K7 O O O hlM (by omega) (by omega)) O ?_)|(apply H5;refine H6 O O O (cE' _ _ _ hpi' (by omega)) O O ?_)|(apply K5;refine s_call (S9 O O) O ?_)|(apply H8;refine M9 O O O O O O O ?_)|(apply r9;refine AH5 (Hr:= .own 3 1 aj j cj (ints M):: .blk b4 31 [.int .i64 0,.int .i64 0,.int .i64 0]:: .blk b2 31 [.int .i64 tl,.int .i64 tf,.int .i64 tb]::H) O O O O O RdC.here hlM (by omega) (by omega) (by omega) (by omega) O O (fun _ _=>?_))|(apply I5;refine J9 O O O O ?_;apply H7))|(apply D6)|(apply G8)|(apply F3)|(apply A7)|(refine G5 O ?_;first|(apply I1)|(apply H7)|(apply E9<;>intro hq<;>(try (exfalso;omega))))|(apply C9)|(apply H9))
        exact J6 (i+1+4,tl,cc,tb) ⟨⟨by show i+1+4≤j;omega,hfi,nxt⟩,by show j-(i+1+4)<j-i;omega⟩ Q7 J3
       ·repeat' (first|(apply E8;first|(apply A8;refine A9 ?_)|(apply C8;refine D7 O O ?_)|(apply E5;refine F7 O O O ?_;first|(apply K9;refine L6 ⟨by omega,by omega⟩ ?_)|refine F9 O ?_)|(apply F5;refine F8 O O ?_;refine X8 hcell ?_)|(apply D5;refine D9 O O ?_)|(apply I6;refine J4 O O ?_;apply P7;refine P6 O ?_)|(apply G6;refine G7 (D8 O O) O ?_)|(apply U7;refine X7 (M0 O O O) O ?_)|(apply M4;refine M8 (K7 O O O hlM (by omega) (by omega)) O ?_)|(apply H5;refine H6 O O O (cE' _ _ _ hpi' (by omega)) O O ?_)|(apply K5;refine s_call (S9 O O) O ?_)|(apply H8;refine M9 O O O O O O O ?_)|(apply r9;refine AH5 (Hr:= .own 3 1 aj j cj (ints M):: .blk b4 31 [.int .i64 0,.int .i64 0,.int .i64 0]:: .blk b2 31 [.int .i64 tl,.int .i64 tf,.int .i64 tb]::H) O O O O O RdC.here hlM (by omega) (by omega) (by omega) (by omega) O O (fun _ _=>?_))|(apply I5;refine J9 O O O O ?_;apply I1))|(apply D6)|(apply G8)|(apply F3)|(apply A7)|(refine G5 O ?_;first|(apply H7)|(apply E9<;>intro hq<;>(try (exfalso;omega))))|(apply C9)|(apply H9))
        exact J6 (i+1+4,tl,tf,cc) ⟨⟨by show i+1+4≤j;omega,hfi,nxt⟩,by show j-(i+1+4)<j-i;omega⟩ Q7 J3
      ·rw[if_neg hm] at hs
       have h38:m≠38:=fun e=>hm (.inl e)
       have h48:m≠48:=fun e=>hm (.inr e)
       have hof:=BF3 (tl,tf,tb) m hfi
       have cO:=fun H=>BP1 G H b2 tl tf tb m hfi ⟨hm1,hm2⟩ h38 h48
       generalize oneP (tl,tf,tb) m=t2 at *
       obtain⟨tl2,tf2,tb2⟩:=t2
       have Hs:=Lib.hid hs
       clear hs hm HE Hpc Hdr HMx
       repeat' (first|(apply E8;first|(apply A8;refine A9 ?_)|(apply C8;refine D7 O O ?_)|(apply E5;refine F7 O O O ?_;first|(apply K9;refine L6 ⟨by omega,by omega⟩ ?_)|refine F9 O ?_)|(apply F5;refine F8 O O ?_;refine X8 hcell ?_)|(apply D5;refine D9 O O ?_)|(apply I6;refine J4 O O ?_;apply P7;refine P6 O ?_)|(apply M4;refine M8 (K7 O O O hlM (by omega) (by omega)) O ?_)|(apply H5;refine c_call O O O (o7 PickBlk.here (cO _)) O O ?_;rintro _ _ ⟨rfl,rfl⟩)|(apply K5;refine s_call (S9 O O) O ?_)|(apply I5;refine J9 O O O O ?_;first|(apply I1)|(apply Y7<;>intro hq<;>(try (exfalso;omega)))))|(apply D6)|(apply G8)|(apply O7)|(apply F3)|(apply A7)|(refine G5 O ?_;first|(apply E9<;>intro hq<;>(try (exfalso;omega)))|(apply Y7<;>intro hq<;>(try (exfalso;omega))))|(apply C9)|(apply K3)|(apply K4))
       exact J6 (i+1,tl2,tf2,tb2) ⟨⟨by show i+1≤j;omega,hof,Hs.out⟩,by show j-(i+1)<j-i;omega⟩ Q7 J3
     ·obtain rfl:i=j:=by omega
      rw[Hnil.out,Bg2] at hs
      rw[←hs]
      repeat' (first|(apply E8;first|(apply A8;refine A9 ?_)|(apply C8;refine D7 O O ?_)|(apply E5;refine F7 O O O ?_;refine F9 O ?_)|(apply F5;refine F8 O O ?_;refine M5 O ?_)|(apply D5;refine D9 O O ?_)|(apply K5;refine s_call (S9 O O) O ?_)|(apply H8;refine Q8 O O O O O O O O ?_))|(apply D6)|(apply I4)|(apply O7)|(apply A7)|(refine G5 O ?_;apply E9<;>intro hq<;>(try (exfalso;omega)))|(apply C9)|(apply K3)|(apply K4))
      refine AB4 H (by (exact .inr O)) O O O J3 ?_;exact⟨O,O⟩
theorem BA2 (G:Ctx) (H:List Ent) (L:List Int) (a:Option Addr) (n c:Nat) [h1:RdC G H a (ints L)] (hn:n=L.length) (i:Int) (x:Int) (hx:(if 0≤i∧i<n∧L.getD i.toNat 0≠ -1 then L.getD i.toNat 0 else 1)=x):SV Tryz.prog G 166 [.slice a n c,.int .i64 i] H (.int .i64 (max x 1)):=by
 have cG:=fun (H:List Ent) [RdC G H a (ints L)]=>Ao2 G H L a n c hn i 1
 rw[hx] at cG
 clear hx hn
 refine R3 Tryz.func166 O O O O O ?_
 repeat' (first|(apply E8;first|(apply A8;refine A9 ?_)|(apply C8;refine D7 O O ?_)|(apply D5;refine D9 O O ?_)|(apply H5;refine H6 O O O (cG _) O O ?_)|(apply K5;refine s_call (AS6 O O O) O ?_))|(apply D6)|(apply I4)|(apply A7)|(apply C9))
 have e:(if x<1 then 1 else x)=max x 1:=by split<;>omega
 refine N7 (by (exact .inr O)) O O0 ?_
 rfl
end
theorem AP9 {f r b:Int} (h:penB f r b=true):penB 0 0 b=true:=by
 have h:=(AR1 f r b).1 h
 exact(AR1 0 0 b).2 ⟨⟨by decide,by decide⟩,.inl ⟨by decide,by decide⟩,h.2.2⟩
section
attribute [local irreducible] SW SL SQ AtQ SV SC BB LD PK Yields SO SOT SOA SY SP SPT SPA
theorem AT6 (G:Ctx) (H:List Ent) (n lo hi:Int):SV Tryz.prog G 60 [.int .i64 n,.int .i64 lo,.int .i64 hi] H (.bool (decide (lo≤n∧n≤hi))):=by
 refine AF2 Tryz.func60 O O O O O ?_
 repeat' (first|(apply E8;first|(apply A8;refine A9 ?_)|(apply C8;refine D7 O O ?_)|(apply E5;refine F7 O O O ?_;refine F9 O ?_)|(apply D5;refine D9 O O ?_)|(apply I6;refine J4 O O ?_;first|(apply P7;refine P6 O ?_)|(apply M6;refine M7 O ?_))|(apply I5;refine J9 O O O O ?_;first|(apply I1)|(apply H7)|(apply E9<;>intro hq<;>(try (exfalso;omega)))))|(apply D6)|(apply I4)|(apply A7)|(apply C9))
 all_goals
  refine N7 (by (exact .inr O)) O O0 ?_
  simp [resV]
 all_goals omega
theorem BY6 (G:Ctx) (H:List Ent) (x:Int):SV Tryz.prog G 104 [.int .i64 x] H (.bool (AD9 x)):=by
 have cW:=fun H=>AT6 G H x (-1) 16383
 have e:(!decide (-1≤x∧x≤16383))=AD9 x:=by
  unfold AD9
  by_cases h: -1≤x∧x≤16383
  ·rw[decide_eq_true h,decide_eq_false (by omega)];rfl
  ·rw[decide_eq_false h,decide_eq_true (by omega)];rfl
 rw[←e]
 generalize decide (-1≤x∧x≤16383)=b at *
 refine P8 Tryz.func104 O O O O O ?_
 repeat' (first|(apply E8;first|(apply A8;refine A9 ?_)|(apply C8;refine D7 O O ?_)|(apply D5;refine D9 O O ?_)|(apply X5;refine Z9 (Z8 O O O) O ?_)|(apply H5;refine H6 O O O (cW _) O O ?_))|(apply D6)|(apply I4)|(apply A7)|(apply C9))
 refine N7 (by (exact .inr O)) O O0 ?_
 rfl
theorem BO3 (G:Ctx) (H:List Ent) (p:Int):SV Tryz.prog G 62 [.int .i64 p] H (.bool (decide (1≤p∧p≤4))):=by
 refine P8 Tryz.func62 O O O O O ?_
 repeat' (first|(apply E8;first|(apply A8;refine A9 ?_)|(apply C8;refine D7 O O ?_)|(apply E5;refine F7 O O O ?_;refine F9 O ?_)|(apply D5;refine D9 O O ?_)|(apply I6;refine J4 O O ?_;first|(apply P7;refine P6 O ?_)|(apply M6;refine M7 O ?_))|(apply I5;refine J9 O O O O ?_;first|(apply I1)|(apply H7)|(apply E9<;>intro hq<;>(try (exfalso;omega)))))|(apply D6)|(apply I4)|(apply A7)|(apply C9))
 all_goals
  refine N7 (by (exact .inr O)) O O0 ?_
  simp [resV]
 all_goals omega
def pastB (X:List (Rx Qd)):Bool:=decide (X.length≤40)&&X.all fun x=>gridE (x.2.2.length:Int) 1 x.2.2==0
theorem Bm7 (G:Ctx) (H:List Ent) (X:List (Rx Qd)) {vs:List Value} (pa:Option Addr) (n pc:Nat) [h1:RdC G H pa vs] (hv:vs=X.map rxV) (hr:RdX qds G H X) (hn:n=X.length) (hm:n≤9223372036854775807):SV Tryz.prog G 63 [.slice pa n pc] H (.bool (pastB X)):=by
 have hlx:vs.length=n * 1:=by rw[hv,List.length_map,hn,Nat.mul_one]
 have hel:∀(k:Nat) x,X[k]? =some x→take? (vs.drop ((k:Int).toNat * 1)) 1=some [rxV x]:=fun k x hx=>by
  subst hv
  rw[Int.toNat_natCast,Nat.mul_one]
  have hlt:=(List.getElem?_eq_some_iff.1 hx).1
  refine AM1 O ?_
  rw[List.drop_eq_getElem_cons (by rw[List.length_map];exact hlt),List.take_succ_cons,List.take_zero,List.getElem_map,(List.getElem?_eq_some_iff.1 hx).2]
 have Hn:=Lib.hid hn
 clear hn
 refine P8 Tryz.func63 O O O O O ?_
 repeat' (first|(apply E8;first|(apply A8;refine A9 ?_)|(apply C8;refine D7 O O ?_)|(apply D5;refine D9 O O ?_)|(apply K5;refine s_call (S9 O O) O ?_))|(apply D6)|(apply F3)|((fail_if_success (refine J5 (id:=2) ?_));apply A7)|(apply C9))
 refine R7 (α:=Nat) (fun k=>[(0,.slice pa n pc),(5,.slice pa n pc),(6,.int .i64 n),(7,.int .i64 k)]) (fun _=>H)
  (fun k=>k≤n∧∀j,j<k→∀x,X[j]? =some x→gridE (x.2.2.length:Int) 1 x.2.2=0) (fun k=>n-k) 0 ⟨Nat.zero_le _,fun j hj=>absurd hj (Nat.not_lt_zero j)⟩ Q7 J3 ?_
 rintro k ⟨hk,hall⟩
 have Ha:=Lib.hid hall
 clear hall
 by_cases hlt:(k:Int)<n
 ·obtain⟨x,hx⟩:=AC3 (X:=X) (k:=k) (by rw[←Hn.out];omega)
  have e1:=hel k x hx
  have hsl:=hr.at hx
  refine BH2 fun w0 hw0=>?_
  have hcap:=(hsl w0 hw0).1
  have hmx:=(hsl w0 hw0).2.1
  clear hw0 w0
  have Hx:=Lib.hid hx
  obtain⟨a,c,R⟩:=x
  dsimp only at hcap hmx
  haveI:=hsl.rd
  dsimp only at this
  have cG:=fun (H:List Ent) [RdC G H a (qds R)]=>AV0 G H R (R.length:Int) 1 a R.length c rfl rfl hmx hcap
  have e1:take? (vs.drop ((k:Int).toNat * 1)) 1=some [.slice a R.length c]:=e1
  generalize hge:gridE (R.length:Int) 1 R=e at *
  clear hel hv hr hsl hx
  repeat' (first|(apply E8;first|(apply A8;refine A9 ?_)|(apply C8;refine D7 O O ?_)|(apply E5;refine F7 O O O ?_;first|(apply K9;refine L6 ⟨by omega,by omega⟩ ?_)|refine F9 O ?_)|(apply F5;first|(refine F8 O O ?_;refine F4 O ?_)|(refine F8 O O ?_;refine l6 e1 O ?_))|(apply D5;refine D9 O O ?_)|(apply G6;refine G7 (D8 O O) O ?_)|(apply U0;refine U6 (Q9 O O O) O ?_)|(apply M4;refine M8 (K7 O O O hlx (by omega) (by omega)) O ?_)|(apply H5;refine H6 O O O (cG _) O O ?_)|(apply K5;refine s_call (S9 O O) O ?_)|(apply H8;refine Q8 O O O O O O O O ?_)|(apply O6;refine Q4 O O O O (fun _=>?_)))|(apply D6)|(apply G8)|(apply I4)|(apply F3)|(apply A7)|(refine G5 O ?_;first|(apply E9<;>intro hq<;>(try (exfalso;omega)))|(apply Y7<;>intro hq<;>(try (exfalso;omega))))|(apply C9)|(apply J8)|(apply H9)|(apply U5))
  ·have hq:e≠0:=by (assumption)
   have hb:pastB X=false:=by
    unfold pastB
    rw[Bool.and_eq_false_iff]
    refine .inr ?_
    rw[List.all_eq_false]
    refine⟨_,List.mem_of_getElem? Hx.out,?_⟩
    dsimp only
    rw[hge]
    simpa using hq
   rw[hb]
   refine N7 (by (exact .inr O)) O O0 ?_
   rfl
  ·have he0:e=0:=by (assumption)
   refine J6 (k+1) ⟨⟨by omega,fun j hj y hy=>?_⟩,by omega⟩ Q7 J3
   rcases Nat.lt_succ_iff_lt_or_eq.1 hj with h|h
   ·exact Ha.out j h y hy
   ·subst h
    rw[Hx.out] at hy
    cases hy
    dsimp only
    rw[hge]
    exact he0
 ·obtain rfl:k=n:=by omega
  have hb:pastB X=decide ((k:Int)≤40):=by
   unfold pastB
   rw[show (X.all fun x=>gridE (x.2.2.length:Int) 1 x.2.2==0)=true from by
    rw[List.all_eq_true]
    intro x hx
    obtain⟨j,hj⟩:=List.getElem?_of_mem hx
    have hjl:=(List.getElem?_eq_some_iff.1 hj).1
    rw[beq_iff_eq]
    exact Ha.out j (by rw[Hn.out];exact hjl) x hj]
   rw[Bool.and_true,Hn.out]
   exact decide_eq_decide.2 (by omega)
  rw[hb]
  repeat' (first|(apply E8;first|(apply A8;refine A9 ?_)|(apply C8;refine D7 O O ?_)|(apply E5;refine F7 O O O ?_;refine F9 O ?_)|(apply D5;refine D9 O O ?_)|(apply K5;refine s_call (S9 O O) O ?_))|(apply D6)|(apply I4)|(apply O7)|(apply A7)|(refine G5 O ?_;apply E9<;>intro hq<;>(try (exfalso;omega)))|(apply C9)|(apply K3)|(apply K4))
  refine N7 (by (exact .inr O)) O O0 ?_
  rfl
end
def AM9 (f:Nat→Nat) (c wide:Nat):List Int:=((List.range' (c+1) (wide-1-c)).filter (bitOf f)).map (fun b:Nat=>(b:Int))
theorem A99 (f:Nat→Nat) (c wide:Nat) (h:wide≤c+1):AM9 f c wide=[]:=by
 unfold AM9
 rw[show wide-1-c=0 from by omega]
 rfl
theorem Ai5 (f:Nat→Nat) (c wide:Nat) (h:c+1<wide) (hb:bitOf f (c+1)=true):AM9 f c wide=((c+1:Nat):Int)::AM9 f (c+1) wide:=by
 unfold AM9
 rw[show wide-1-c=(wide-1-(c+1))+1 from by omega,List.range'_succ,List.filter_cons,if_pos hb]
 rfl
theorem BM7 (f:Nat→Nat) (c wide:Nat) (h:c+1<wide) (hb:bitOf f (c+1)=false):AM9 f c wide=AM9 f (c+1) wide:=by
 unfold AM9
 rw[show wide-1-c=(wide-1-(c+1))+1 from by omega,List.range'_succ,List.filter_cons,if_neg (by rw[hb];decide)]
theorem Ao8 (C:Array Value) (f:Nat→Nat) (b:Nat) (w:World) (hC:Words C f) (h:b<256):
 Calls Tryz.prog 211 #[.agg C,.int .i64 b] w fun e w'=>e= .returned (.bool (bitOf f b))∧Below w.heap.size w w':=by
 obtain⟨hs,hC⟩:=hC
 obtain⟨hx,hx'⟩:=hC (b / 64) (by omega)
 obtain⟨x,hX⟩:∃x,x=f (b / 64):=⟨_,rfl⟩
 have Hfin:Hid (bitOf f b=decide (x / 2 ^ (b % 64) % 2=1)):=by unfold Hid bitOf;rw[←hX,BB2]
 rw[←hX] at hx hx'
 clear hX hC hs
 have e1:IntKind.i64.wrap ((b:Int) / 64)=(b:Int) / 64:=IntWalk.i64_in _ (by omega)
 have e2:(b:Int).tmod 64=(b:Int) % 64:=Int.tmod_eq_emod_of_nonneg (by omega)
 have e3:(0:Int)≤(b:Int) / 64:=by omega
 have e4:(b:Int) / 64<4:=by omega
 have e5:((b:Int) / 64).toNat=b / 64:=by omega
 have e6:(0:Int)≤(b:Int) % 64:=by omega
 have e7:(b:Int) % 64≤64:=by omega
 have e8:((b:Int) % 64).toNat=b % 64:=by omega
 go_enter Tryz.func211,Tryz.ntmps211
 go_wp2
 go_ret
 exact⟨AQ5 (by rw[Hfin.out];exact and1 x _ hx'),(Below.refl _ _).alloc (Nat.le_refl _) _⟩
theorem At7:(Tryz.prog.info? 35).map (·.size)=some 4:=by kernel_rfl
def nextV (f:Nat→Nat) (c n wide:Nat):Int:=(AM9 f c wide).getD (n-1) (wide-1)
def backV (f:Nat→Nat) (c n:Nat):Int:=(Ae1 f c).reverse.getD (n-1) 0
theorem BX7 (f:Nat→Nat) (c n wide:Nat) (h:wide≤c+1):nextV f c n wide=wide-1:=by
 unfold nextV;rw[A99 f c wide h];rfl
theorem Bd3 (f:Nat→Nat) (c n wide:Nat) (h:c+1<wide) (hb:bitOf f (c+1)=false):nextV f c n wide=nextV f (c+1) n wide:=by
 unfold nextV;rw[BM7 f c wide h hb]
theorem BQ7 (f:Nat→Nat) (c wide:Nat) (h:c+1<wide) (hb:bitOf f (c+1)=true):nextV f c 1 wide=c+1:=by
 unfold nextV;rw[Ai5 f c wide h hb];rfl
theorem BK2 (f:Nat→Nat) (c n wide:Nat) (h:c+1<wide) (hb:bitOf f (c+1)=true) (hn:1≤n):nextV f c (n+1) wide=nextV f (c+1) n wide:=by
 unfold nextV;rw[Ai5 f c wide h hb,show n+1-1=(n-1)+1 from by omega];rfl
theorem BY7 (f:Nat→Nat) (n:Nat):backV f 0 n=0:=rfl
theorem Bh6 (f:Nat→Nat) (c n:Nat) (hb:bitOf f c=false):backV f (c+1) n=backV f c n:=by
 unfold backV;rw[AX6,if_neg (by rw[hb];decide)]
theorem Ba1 (f:Nat→Nat) (c:Nat) (hb:bitOf f c=true):backV f (c+1) 1=c:=by
 unfold backV;rw[AX6,if_pos hb,List.reverse_append];rfl
theorem BL4 (f:Nat→Nat) (c n:Nat) (hb:bitOf f c=true) (hn:1≤n):backV f (c+1) (n+1)=backV f c n:=by
 unfold backV;rw[AX6,if_pos hb,List.reverse_append,show n+1-1=(n-1)+1 from by omega];rfl
theorem A85 (C:Array Value) (f:Nat→Nat) (col n wide:Nat) (w:World) (hC:Words C f) (h1:1≤wide) (h2:wide≤160) (h3:col<wide) (h4:1≤n) (h5:n≤16383):
 Calls Tryz.prog 158 #[.agg C,.int .i64 col,.int .i64 n,.int .i64 wide] w fun e w'=>e= .returned (.tuple #[.int .i64 (nextV f col n wide),.int .i64 0])∧Below w.heap.size w w':=by
 have hs:(Tryz.prog.info? 35).map (·.size)=some C.size:=by rw[hC.1];exact At7
 have Hs:=Lib.hid hs
 clear hs
 have g1:¬(wide:Int)<1:=by omega
 have g2:¬160<(wide:Int):=by omega
 have g3:¬(col:Int)<0:=by omega
 have g4:¬(wide:Int)≤(col:Int):=by omega
 have g5:¬(n:Int)<0:=by omega
 have g6:¬16383<(n:Int):=by omega
 go_enter Tryz.func158,Tryz.ntmps158
 go_wp2_with fail
 have hbl0:Below w.heap.size w (w.alloc (.cells C 35)):=(Below.refl _ _).alloc (Nat.le_refl _) _
 have hrow0:(w.alloc (.cells C 35)).heap[w.heap.size]? =some (.cells C 35 (0,0)):=heap_alloc_new _ _
 obtain⟨w1,hw1⟩:∃w1,w1=w.alloc (.cells C 35):=⟨_,rfl⟩
 rw[←hw1] at hbl0 hrow0 ⊢
 clear hw1
 have hlt0:=AW6 hrow0
 obtain⟨g,hg⟩:∃g,g=w.heap.size:=⟨_,rfl⟩
 rw[←hg] at hrow0 hlt0
 rw[←hg]
 have Hg:=Lib.hid hg
 have Hbl0:=Lib.hid hbl0
 clear hg hbl0
 go_loopw [2,10] (fun x y wr=>∃c m:Nat,x= .int .i64 m∧y= .int .i64 c∧c<wide∧1≤m∧m≤16383∧Hid (nextV f c m wide=nextV f col n wide)∧Below w1.heap.size w1 wr) (fun _ y _=>256-(intOf y).toNat)
 case atStart=>exact⟨col,n,O,O,h3,h4,h5,O,Below.refl _ _⟩
 case round=>
  obtain⟨c,m,rfl,rfl,hc,hm,hm2,Hv,hbl⟩:=hrel
  have hrow:=hbl.row hlt0 hrow0
  by_cases hlt:c+1<wide
  ·have hh:=fun w=>Ao8 C f (c+1) w hC (by omega)
   cases hbit:bitOf f (c+1)
   ·have hv:=Lib.hid ((Bd3 f c m wide hlt hbit).symm.trans Hv.out)
    rw[hbit] at hh
    clear hbit
    go_wp2_with ((with_reducible refine AK9 rfl 35 _ rfl g C ?_ _ _ hrow Tryz.underlying35 rfl Hs.out ?_);(focus rfl))
    refine(hh _).mono ?_
    rintro e w2 ⟨rfl,hb2⟩
    have hbl2:=hbl.trans (hb2.mono hbl.size)
    clear hbl hb2 hrow
    go_wp2_with fail
    go_roundw
    case rel=>exact⟨c+1,m,O,by go_num,by omega,hm,hm2,hv,hbl2⟩
    case measure=>simp [intOf];omega
   ·rw[hbit] at hh
    by_cases h1m:m=1
    ·subst h1m
     have hv:=Lib.hid ((BQ7 f c wide hlt hbit).symm.trans Hv.out)
     clear hbit
     go_wp2_with ((with_reducible refine AK9 rfl 35 _ rfl g C ?_ _ _ hrow Tryz.underlying35 rfl Hs.out ?_);(focus rfl))
     refine(hh _).mono ?_
     rintro e w2 ⟨rfl,hb2⟩
     have hbl2:=hbl.trans (hb2.mono hbl.size)
     clear hbl hb2 hrow
     go_wp2_with fail
     go_ret2
     exact⟨BK8 (by rw[←hv.out];rfl) O,AS5 Hbl0.out hbl2⟩
    ·obtain⟨m,rfl⟩:∃k,m=k+1:=⟨m-1,by omega⟩
     have hv:=Lib.hid ((BK2 f c m wide hlt hbit (by omega)).symm.trans Hv.out)
     clear hbit
     go_wp2_with ((with_reducible refine AK9 rfl 35 _ rfl g C ?_ _ _ hrow Tryz.underlying35 rfl Hs.out ?_);(focus rfl))
     refine(hh _).mono ?_
     rintro e w2 ⟨rfl,hb2⟩
     have hbl2:=hbl.trans (hb2.mono hbl.size)
     clear hbl hb2 hrow
     go_wp2_with fail
     go_roundw
     case rel=>exact⟨c+1,m,by go_num,by go_num,by omega,by omega,by omega,hv,hbl2⟩
     case measure=>simp [intOf];omega
  ·have hv:=Lib.hid ((BX7 f c m wide (by omega)).symm.trans Hv.out)
   go_wp2_with fail
   go_ret2
   exact⟨BK8 (by rw[←hv.out];rfl) O,AS5 Hbl0.out hbl⟩
theorem A36 (C:Array Value) (f:Nat→Nat) (col n:Nat) (w:World) (hC:Words C f) (h3:col≤255) (h4:1≤n) (h5:n≤16383):
 Calls Tryz.prog 214 #[.agg C,.int .i64 col,.int .i64 n] w fun e w'=>e= .returned (.tuple #[.int .i64 (backV f col n),.int .i64 0])∧Below w.heap.size w w':=by
 have hs:(Tryz.prog.info? 35).map (·.size)=some C.size:=by rw[hC.1];exact At7
 have Hs:=Lib.hid hs
 clear hs
 have g3:¬(col:Int)<0:=by omega
 have g4:¬255<(col:Int):=by omega
 have g5:¬(n:Int)<0:=by omega
 have g6:¬16383<(n:Int):=by omega
 go_enter Tryz.func214,Tryz.ntmps214
 go_wp2_with fail
 have hbl0:Below w.heap.size w (w.alloc (.cells C 35)):=(Below.refl _ _).alloc (Nat.le_refl _) _
 have hrow0:(w.alloc (.cells C 35)).heap[w.heap.size]? =some (.cells C 35 (0,0)):=heap_alloc_new _ _
 obtain⟨w1,hw1⟩:∃w1,w1=w.alloc (.cells C 35):=⟨_,rfl⟩
 rw[←hw1] at hbl0 hrow0 ⊢
 clear hw1
 have hlt0:=AW6 hrow0
 obtain⟨g,hg⟩:∃g,g=w.heap.size:=⟨_,rfl⟩
 rw[←hg] at hrow0 hlt0
 rw[←hg]
 have Hg:=Lib.hid hg
 have Hbl0:=Lib.hid hbl0
 clear hg hbl0
 go_loopw [2,8] (fun x y wr=>∃c m:Nat,x= .int .i64 m∧y= .int .i64 c∧c≤255∧1≤m∧m≤16383∧Hid (backV f c m=backV f col n)∧Below w1.heap.size w1 wr) (fun _ y _=>(intOf y).toNat)
 case atStart=>exact⟨col,n,O,O,h3,h4,h5,O,Below.refl _ _⟩
 case round=>
  obtain⟨c,m,rfl,rfl,hc,hm,hm2,Hv,hbl⟩:=hrel
  have hrow:=hbl.row hlt0 hrow0
  by_cases hlt:1≤c
  ·obtain⟨c,rfl⟩:∃k,c=k+1:=⟨c-1,by omega⟩
   have hh:=fun w=>Ao8 C f c w hC (by omega)
   have ec:((c+1:Nat):Int)-1=(c:Int):=by omega
   cases hbit:bitOf f c
   ·have hv:=Lib.hid ((Bh6 f c m hbit).symm.trans Hv.out)
    rw[hbit] at hh
    clear hbit
    go_wp2_with ((with_reducible refine AK9 rfl 35 _ rfl g C ?_ _ _ hrow Tryz.underlying35 rfl Hs.out ?_);(focus rfl))
    refine(hh _).mono ?_
    rintro e w2 ⟨rfl,hb2⟩
    have hbl2:=hbl.trans (hb2.mono hbl.size)
    clear hbl hb2 hrow
    go_wp2_with fail
    go_roundw
    case rel=>exact⟨c,m,O,by go_num,by omega,hm,hm2,hv,hbl2⟩
    case measure=>simp [intOf]
   ·rw[hbit] at hh
    by_cases h1m:m=1
    ·subst h1m
     have hv:=Lib.hid ((Ba1 f c hbit).symm.trans Hv.out)
     clear hbit
     go_wp2_with ((with_reducible refine AK9 rfl 35 _ rfl g C ?_ _ _ hrow Tryz.underlying35 rfl Hs.out ?_);(focus rfl))
     refine(hh _).mono ?_
     rintro e w2 ⟨rfl,hb2⟩
     have hbl2:=hbl.trans (hb2.mono hbl.size)
     clear hbl hb2 hrow
     go_wp2_with fail
     go_ret2
     exact⟨BK8 (by rw[←hv.out];rfl) O,AS5 Hbl0.out hbl2⟩
    ·obtain⟨m,rfl⟩:∃k,m=k+1:=⟨m-1,by omega⟩
     have hv:=Lib.hid ((BL4 f c m hbit (by omega)).symm.trans Hv.out)
     clear hbit
     go_wp2_with ((with_reducible refine AK9 rfl 35 _ rfl g C ?_ _ _ hrow Tryz.underlying35 rfl Hs.out ?_);(focus rfl))
     refine(hh _).mono ?_
     rintro e w2 ⟨rfl,hb2⟩
     have hbl2:=hbl.trans (hb2.mono hbl.size)
     clear hbl hb2 hrow
     go_wp2_with fail
     go_roundw
     case rel=>exact⟨c,m,by go_num,by go_num,by omega,by omega,by omega,hv,hbl2⟩
     case measure=>simp [intOf]
  ·obtain rfl:c=0:=by omega
   have hv:=Lib.hid ((BY7 f m).symm.trans Hv.out)
   go_wp2_with fail
   go_ret2
   exact⟨BK8 (by rw[←hv.out];rfl) O,AS5 Hbl0.out hbl⟩
end Go.Proofs.YtmmnimagbnlcmaaGreatDoor
