/- Texts of this claim, merged: Ter7 Ter8 Ter9 Ter10. -/
import Derived.Test.YtmmnimagbnlcmaaGreatDoorTy14
import Derived.Test.YtmmnimagbnlcmaaGreatDoorRows
import Derived.WalkKit
import Derived.WalkSpells
import Derived.WalkLawsBesides
import Derived.Handy
import Derived.Lib.Hide
import Derived.Laws.BitsAllLaws
import Derived.Deep.MidRow
import Derived.Deep.WholeRow
import Derived.BigQuiet
import Derived.Deep.QuietTactic
import Derived.Laws.CopyOwn
import Derived.StillTailTactics
import Derived.RegionTactic
import Derived.ChangeAlike
import Derived.Laws.AppendOwnNone
import Derived.Laws.MakeOwn
import Derived.Laws.IdiomStrings
import Derived.OrdersHeld
import Derived.Lib.SliceRun
import Derived.ChangeKeysEq
import Derived.Laws.CopyRow
import Derived.Lib.AppendStr
import Derived.ArgAppend
import Derived.Laws.RangeAny
import Derived.Maps.RangeRun
import Derived.Lib.Replace
import Derived.Lib.Join
import Derived.Lib.IndexLaws
import Derived.Lib.IndexMore
import Derived.Lib.SplitLaws
import Derived.Shelf.Strings.Builder1
import Derived.Shelf.Strings.Builder2
import Derived.Shelf.Strings.OnBuilder
import Derived.Shelf.Strings.Trim
import Derived.Shelf.Small.Utf8
import Derived.Shelf.Small.Strs
import Derived.Shelf.Strings.BuilderF
import Derived.Shelf.Strconv.Itoa0
import Derived.Shelf.Strconv.Itoa1
import Derived.Shelf.LaysM
import Derived.Shelf.Strconv.Itoa2
import Derived.Shelf.Strconv.Itoa3
import Derived.Shelf.Strings.Search1
import Derived.Shelf.Strings.Search2
import Derived.Shelf.Strings.Search3
import Derived.Shelf.Strings.Count
import Derived.Shelf.Strings.Shaped
import Derived.Shelf.Strings.LastIndex
import Derived.Shelf.Strings.Prefix
import Derived.Shelf.Strings.Split
import Derived.Shelf.Strings.Replace
import Derived.Shelf.Strings.SplitShaped
import Derived.Shelf.Strings.Runes
import Derived.Shelf.Strings.AsciiSet
import Derived.Shelf.Bits.Mul64
import Derived.Shelf.Strings.Repeat
import Derived.Shelf.Unicode.DecodeSlow
import Derived.Shelf.Unicode.DecodeAny
import Derived.Shelf.Unicode.ValidAny
import Derived.Test.YtmmnimagbnlcmaaGreatDoorProg
import Derived.Lib.Bytealg
import Derived.Lib.ItoaNum
import Derived.Lib.AppendIntMem
import Derived.Lib.ItoaLen
set_option maxRecDepth 100000
set_option maxHeartbeats 8000000
open Go Go.RowKit Go.Fw Go.Sx
namespace Go.Proofs.YtmmnimagbnlcmaaGreatDoor
theorem TmQ.shiftQ {s:Scr} (h:OkS s) (n:Int):(AH7 s n).C.length=s.C.length:=by
 have hr:=h.row
 exact AU0 h (by omega) (by rw[AH0,AC4];exact j6 (by omega) h.g.len)
section
attribute [local irreducible] SW SL SQ AtQ SV SC BB LD PK Yields SO SOT SOA SY SP SPT SPA
variable (G:Ctx) (tb:Nat) (t:ByteArray)
theorem lineQ (K H:List Ent) (s:Scr) (h:OkS s) (hq:TmQ G tb t s K H) (k:Int):SC Tryz.prog G 215 [.pointer (some ⟨tb,0,none⟩),.int .i64 k] H fun v H'=>v= .bool (decide (0≤k∧k≤2))∧TmQ G tb t (if 0≤k∧k≤2 then lineA s k else s) K H':=by
 have hz:=h.g.size
 have hc:=h.col
 have hr:=h.row
 by_cases hk:0≤k∧k≤2
 ·rw[if_pos hk,decide_eq_true hk]
  have hq0:=hq
  obtain⟨gb,gn,gc,ob,on,oc,P,pa,pn,pc,X,E,rfl,hi⟩:=hq
  unfold lineA
  rcases (show k=0∨k=1∨k=2 by omega) with rfl|rfl|rfl
  ·have cF:=fillQ G tb t K _ s h hq0 s.row s.col s.w hr (by omega)
   rw[if_pos rfl,if_neg (by decide)]
   unfold trmC at cF ⊢
   refine I7 Tryz.func215 O O O O O ?_
   repeat' (first|(apply E8;first|(apply A8;refine A9 ?_)|(apply C8;refine D7 O O ?_)|(apply E5;refine F7 O O O ?_;refine F9 O ?_)|(apply F5;refine F8 O O ?_;refine F4 O ?_)|(apply D5;refine D9 O O ?_)|(apply G6;refine G7 (D8 O O) O ?_)|(apply I9;refine J7 (F6 O O) O ?_)|(apply H5;refine c_call O O O cF O O ?_;rintro _ _ ⟨rfl,hq1⟩))|(apply u7;first|(apply Y3;refine Y2 ?_)|(apply Y8;refine j5 O O ?_)|(apply V8;refine Y4 O O ?_;refine F4 O ?_)|(apply Y1;refine Z7 O O ?_)|(apply V9;refine X9 (D8 O O) O ?_)|(apply p8;refine AA0 (F6 O O) O ?_))|(apply D6)|(apply I4)|(apply F3)|(apply A7)|(refine G5 O ?_;apply I1)|(apply C9)|(apply H9)|refine V6 (by kernel_rfl) ?_)
   all_goals exact I8 _ (by (exact .inr O)) O (fun _ hw=>hw) ⟨O,hq1⟩
  ·have cF:=fillQ G tb t K _ s h hq0 s.row 0 (s.col+1) hr (by omega)
   rw[if_neg (by decide),if_pos rfl]
   unfold trmC at cF ⊢
   refine I7 Tryz.func215 O O O O O ?_
   repeat' (first|(apply E8;first|(apply A8;refine A9 ?_)|(apply C8;refine D7 O O ?_)|(apply E5;refine F7 O O O ?_;first|(apply K9;refine L6 ⟨by omega,by omega⟩ ?_)|refine F9 O ?_)|(apply F5;refine F8 O O ?_;refine F4 O ?_)|(apply D5;refine D9 O O ?_)|(apply G6;refine G7 (D8 O O) O ?_)|(apply I9;refine J7 (F6 O O) O ?_)|(apply H5;refine c_call O O O cF O O ?_;rintro _ _ ⟨rfl,hq1⟩))|(apply u7;first|(apply Y3;refine Y2 ?_)|(apply Y8;refine j5 O O ?_)|(apply V8;refine Y4 O O ?_;refine F4 O ?_)|(apply Y1;refine Z7 O O ?_)|(apply V9;refine X9 (D8 O O) O ?_)|(apply p8;refine AA0 (F6 O O) O ?_))|(apply D6)|(apply I4)|(apply F3)|(apply A7)|(refine G5 O ?_;first|(apply I1)|(apply H7))|(apply C9)|(apply H9)|refine V6 (by kernel_rfl) ?_)
   all_goals exact I8 _ (by (exact .inr O)) O (fun _ hw=>hw) ⟨O,hq1⟩
  ·have cF:=fillQ G tb t K _ s h hq0 s.row 0 s.w hr (by omega)
   rw[if_neg (by decide),if_neg (by decide)]
   unfold trmC at cF ⊢
   refine I7 Tryz.func215 O O O O O ?_
   repeat' (first|(apply E8;first|(apply A8;refine A9 ?_)|(apply C8;refine D7 O O ?_)|(apply E5;refine F7 O O O ?_;refine F9 O ?_)|(apply F5;refine F8 O O ?_;refine F4 O ?_)|(apply D5;refine D9 O O ?_)|(apply G6;refine G7 (D8 O O) O ?_)|(apply I9;refine J7 (F6 O O) O ?_)|(apply H5;refine c_call O O O cF O O ?_;rintro _ _ ⟨rfl,hq1⟩))|(apply u7;first|(apply Y3;refine Y2 ?_)|(apply Y8;refine j5 O O ?_)|(apply V8;refine Y4 O O ?_;refine F4 O ?_)|(apply Y1;refine Z7 O O ?_)|(apply V9;refine X9 (D8 O O) O ?_)|(apply p8;refine AA0 (F6 O O) O ?_))|(apply D6)|(apply G8)|(apply I4)|(apply F3)|(apply A7)|(refine G5 O ?_;first|(apply I1)|(apply H7))|(apply C9)|(apply H9)|refine V6 (by kernel_rfl) ?_)
   all_goals exact I8 _ (by (exact .inr O)) O (fun _ hw=>hw) ⟨O,hq1⟩
 ·rw[if_neg hk,decide_eq_false hk]
  have fin:=hq
  have h0:¬k=0:=by omega
  have h1:¬k=1:=by omega
  have h2:¬k=2:=by omega
  clear hk
  obtain⟨gb,gn,gc,ob,on,oc,P,pa,pn,pc,X,E,rfl,hi⟩:=hq
  unfold trmC
  refine I7 Tryz.func215 O O O O O ?_
  repeat' (first|(apply E8;first|(apply A8;refine A9 ?_)|(apply C8;refine D7 O O ?_)|(apply E5;refine F7 O O O ?_;refine F9 O ?_)|(apply D5;refine D9 O O ?_))|(apply u7;first|(apply Y3;refine Y2 ?_)|(apply Y8;refine j5 O O ?_)|(apply V8;refine Y4 O O ?_;refine F4 O ?_)|(apply Y1;refine Z7 O O ?_)|(apply V9;refine X9 (D8 O O) O ?_)|(apply p8;refine AA0 (F6 O O) O ?_))|(apply D6)|(apply I4)|(apply F3)|(apply A7)|(refine G5 O ?_;apply E9<;>intro hq<;>(try (exfalso;omega)))|(apply C9)|(apply J8)|(apply U5)|refine V6 (by kernel_rfl) ?_)
  all_goals exact I8 _ (by (exact .inr O)) O (fun _ hw=>hw) ⟨O,fin⟩
theorem A74 (K:List Ent) (s:Scr) (h:OkS s) (gb gn gc:Nat) (oa:Option Addr) (on oc:Nat) (pa:Option Addr) (pn pc:Nat) (hgn:gn=s.C.length) (hgc:gn≤gc) (n k:Int) (hn:1≤n∧n≤16383) (c n':Int) (hcn:(c=64∧n'=n)∨(c=80∧n'= -n)):SC Tryz.prog G 169 [.pointer (some ⟨tb,0,none⟩),.int .i64 c,.int .i64 n,.int .i64 k] (.blk tb 158 (trmC s (some ⟨gb,0,none⟩) gn gc oa on oc pa pn pc t):: .own 97 4 (some ⟨gb,0,none⟩) gn gc (qds s.C)::K) fun v H'=>v= .bool true∧H'= .blk tb 158 (trmC (AH7 (lateA s) n') (some ⟨gb,0,none⟩) gn gc oa on oc pa pn pc t):: .own 97 4 (some ⟨gb,0,none⟩) gn gc (qds (AH7 (lateA s) n').C)::K:=by
 have hz:=h.g.size
 have hr:=h.row
 have hc:=h.col
 have hneg:IntKind.i64.wrap (0-n)= -n:=(IntWalk.i64_in (0-n) (by omega)).trans (by omega)
 have cC:=fun (H:List Ent) (_:HasBlk H tb 158 (trmC {s with late:=false} (some ⟨gb,0,none⟩) gn gc oa on oc pa pn pc t))=>AJ5 G H {s with late:=false} tb (some ⟨gb,0,none⟩) gn gc oa on oc pa pn pc t
 have cS:=fun (H:List Ent)=>Ai8 G H s.C gb s.w s.h gn gc s.row.toNat s.col.toNat s.w n' 0 0 s.pb h.g hgn hgc (by omega) (by omega) (by omega) (by omega)
 rw[Int.toNat_of_nonneg hr.1,Int.toNat_of_nonneg hc.1] at cS
 unfold AH7 AP7 lateA
 dsimp only
 generalize rowC s.C s.w s.row.toNat _=C' at *
 unfold trmC at *
 try dsimp only at cC
 rcases hcn with ⟨rfl,rfl⟩|⟨rfl,rfl⟩
 ·refine Y6 Tryz.func169 O O O O O ?_
  repeat' (first|(apply E8;first|(apply A8;refine A9 ?_)|(apply C8;refine D7 O O ?_)|(apply E5;refine F7 O O O ?_;refine F9 O ?_)|(apply F5;refine F8 O O ?_;refine F4 O ?_)|(apply D5;refine D9 O O ?_)|(apply G6;refine G7 (D8 O O) O ?_)|(apply I9;refine J7 (F6 O O) O ?_)|(apply H8;refine M9 O O O O O O O ?_))|(apply D6)|(apply G8)|(apply F3)|((fail_if_success (refine J5 (id:=9) ?_));apply A7)|(refine G5 O ?_;first|(apply I1)|(apply H7))|(apply C9))
  repeat' (first|(apply E8;first|(apply A8;refine A9 ?_)|(apply D5;refine D9 O O ?_)|(apply H5;first|refine H6 O O O (cC _ inferInstance) O O ?_ |(refine c_call O O O (o7 PickOwn.here (cS _)) O O ?_;rintro _ _ ⟨rfl,rfl⟩)))|(apply Q0;refine N8 (k:=0) J3 ?_)|(apply U3;first|(refine L8 O ?_)|(refine O4 O O O O (by kernel_rfl) (by decide+kernel) (by decide+kernel) ?_;first|(apply O1;refine G9 (P9 O O) ?_)|(apply R9;refine R6 O ?_;first|refine F4 O ?_ |refine O9 O O ?_)|(apply M3;refine G9 (D8 O O) ?_)|(apply R5;refine G9 (F6 O O) ?_))|(refine O5 O ?_)|(refine N9 (by decide+kernel) ?_)|(refine Q6 (by kernel_rfl) ?_))|(apply V3;first|(refine Q5 O)|(refine U1 (by decide+kernel) ?_)|(refine Q3 O ?_ ?_))|(apply D6)|(apply I4)|(apply A7)|(apply C9)|(apply H9)|(refine J5 (id:=9) ?_;refine AA6 (a:=some ⟨gb,0,none⟩) ?_))
  all_goals exact I8 (.blk tb 158 _:: .own 97 4 (some ⟨gb,0,none⟩) gn gc (qds C')::K) (by (exact .inr O)) O J3 ⟨O,O⟩
 ·rw[←hneg] at cS
  refine Y6 Tryz.func169 O O O O O ?_
  repeat' (first|(apply E8;first|(apply A8;refine A9 ?_)|(apply C8;refine D7 O O ?_)|(apply E5;refine F7 O O O ?_;refine F9 O ?_)|(apply F5;refine F8 O O ?_;refine F4 O ?_)|(apply D5;refine D9 O O ?_)|(apply G6;refine G7 (D8 O O) O ?_)|(apply X5;refine Z9 (Z8 O O O) O ?_)|(apply I9;refine J7 (F6 O O) O ?_)|(apply H8;refine M9 O O O O O O O ?_))|(apply D6)|(apply F3)|((fail_if_success (refine J5 (id:=9) ?_));apply A7)|(refine G5 O ?_;first|(apply I1)|(apply H7))|(apply C9))
  repeat' (first|(apply E8;first|(apply A8;refine A9 ?_)|(apply D5;refine D9 O O ?_)|(apply H5;first|refine H6 O O O (cC _ inferInstance) O O ?_ |(refine c_call O O O (o7 PickOwn.here (cS _)) O O ?_;rintro _ _ ⟨rfl,rfl⟩)))|(apply Q0;refine N8 (k:=0) J3 ?_)|(apply U3;first|(refine L8 O ?_)|(refine O4 O O O O (by kernel_rfl) (by decide+kernel) (by decide+kernel) ?_;first|(apply O1;refine G9 (P9 O O) ?_)|(apply R9;refine R6 O ?_;first|refine F4 O ?_ |refine O9 O O ?_)|(apply M3;refine G9 (D8 O O) ?_)|(apply R5;refine G9 (F6 O O) ?_))|(refine O5 O ?_)|(refine N9 (by decide+kernel) ?_)|(refine Q6 (by kernel_rfl) ?_))|(apply V3;first|(refine Q5 O)|(refine U1 (by decide+kernel) ?_)|(refine Q3 O ?_ ?_))|(apply D6)|(apply I4)|(apply A7)|(apply C9)|(apply H9)|(refine J5 (id:=9) ?_;refine AA6 (a:=some ⟨gb,0,none⟩) ?_))
  all_goals exact I8 (.blk tb 158 _:: .own 97 4 (some ⟨gb,0,none⟩) gn gc (qds C')::K) (by (exact .inr O)) O J3 ⟨O,O⟩
theorem A16 (K:List Ent) (s:Scr) (h:OkS s) (gb gn gc:Nat) (oa:Option Addr) (on oc:Nat) (pa:Option Addr) (pn pc:Nat) (hgn:gn=s.C.length) (hgc:gn≤gc) (n k:Int) (hn:1≤n∧n≤16383) (c n':Int) (hcn:(c=83∧n'=n)∨(c=84∧n'= -n)):SC Tryz.prog G 169 [.pointer (some ⟨tb,0,none⟩),.int .i64 c,.int .i64 n,.int .i64 k] (.blk tb 158 (trmC s (some ⟨gb,0,none⟩) gn gc oa on oc pa pn pc t):: .own 97 4 (some ⟨gb,0,none⟩) gn gc (qds s.C)::K) fun v H'=>v= .bool true∧H'= .blk tb 158 (trmC (rollA (lateA s) s.top s.bot n') (some ⟨gb,0,none⟩) gn gc oa on oc pa pn pc t):: .own 97 4 (some ⟨gb,0,none⟩) gn gc (qds (rollA (lateA s) s.top s.bot n').C)::K:=by
 have hz:=h.g.size
 have ht:=h.top
 have hl1:=h.g.len1
 have hneg:IntKind.i64.wrap (0-n)= -n:=(IntWalk.i64_in (0-n) (by omega)).trans (by omega)
 have cC:=fun (H:List Ent) (_:HasBlk H tb 158 (trmC {s with late:=false} (some ⟨gb,0,none⟩) gn gc oa on oc pa pn pc t))=>AJ5 G H {s with late:=false} tb (some ⟨gb,0,none⟩) gn gc oa on oc pa pn pc t
 have cS:=fun (H:List Ent)=>AO0 G H s.C gb s.w s.h gn gc s.top.toNat s.bot.toNat n' 0 0 s.pb hgn h.g.len (by rw[hgn];exact hl1) hgc hz.1 hz.2.2 (by omega) (by omega) (by omega)
 rw[Int.toNat_of_nonneg (show 0≤s.top by omega),Int.toNat_of_nonneg (show 0≤s.bot by omega)] at cS
 unfold rollA lateA
 dsimp only
 generalize scrC s.C s.w s.h s.top.toNat s.bot.toNat n' (32,0,0,s.pb)=C' at *
 unfold trmC at *
 try dsimp only at cC
 rcases hcn with ⟨rfl,rfl⟩|⟨rfl,rfl⟩
 ·refine Y6 Tryz.func169 O O O O O ?_
  repeat' (first|(apply E8;first|(apply A8;refine A9 ?_)|(apply C8;refine D7 O O ?_)|(apply E5;refine F7 O O O ?_;refine F9 O ?_)|(apply F5;refine F8 O O ?_;refine F4 O ?_)|(apply D5;refine D9 O O ?_)|(apply G6;refine G7 (D8 O O) O ?_)|(apply I9;refine J7 (F6 O O) O ?_)|(apply H8;refine M9 O O O O O O O ?_))|(apply D6)|(apply G8)|(apply F3)|((fail_if_success (refine J5 (id:=36) ?_));apply A7)|(refine G5 O ?_;first|(apply I1)|(apply H7))|(apply C9))
  repeat' (first|(apply E8;first|(apply A8;refine A9 ?_)|(apply D5;refine D9 O O ?_)|(apply H5;first|refine H6 O O O (cC _ inferInstance) O O ?_ |(refine c_call O O O (o7 PickOwn.here (cS _)) O O ?_;rintro _ _ ⟨rfl,rfl⟩)))|(apply Q0;refine N8 (k:=0) J3 ?_)|(apply U3;first|(refine L8 O ?_)|(refine O4 O O O O (by kernel_rfl) (by decide+kernel) (by decide+kernel) ?_;first|(apply O1;refine G9 (P9 O O) ?_)|(apply R9;refine R6 O ?_;first|refine F4 O ?_ |refine O9 O O ?_)|(apply M3;refine G9 (D8 O O) ?_)|(apply R5;refine G9 (F6 O O) ?_))|(refine O5 O ?_)|(refine N9 (by decide+kernel) ?_)|(refine Q6 (by kernel_rfl) ?_))|(apply V3;first|(refine Q5 O)|(refine U1 (by decide+kernel) ?_)|(refine Q3 O ?_ ?_))|(apply D6)|(apply I4)|(apply A7)|(apply C9)|(apply H9)|(refine J5 (id:=36) ?_;refine AA6 (a:=some ⟨gb,0,none⟩) ?_))
  all_goals exact I8 (.blk tb 158 _:: .own 97 4 (some ⟨gb,0,none⟩) gn gc (qds C')::K) (by (exact .inr O)) O J3 ⟨O,O⟩
 ·rw[←hneg] at cS
  refine Y6 Tryz.func169 O O O O O ?_
  repeat' (first|(apply E8;first|(apply A8;refine A9 ?_)|(apply C8;refine D7 O O ?_)|(apply E5;refine F7 O O O ?_;refine F9 O ?_)|(apply F5;refine F8 O O ?_;refine F4 O ?_)|(apply D5;refine D9 O O ?_)|(apply G6;refine G7 (D8 O O) O ?_)|(apply X5;refine Z9 (Z8 O O O) O ?_)|(apply I9;refine J7 (F6 O O) O ?_)|(apply H8;refine M9 O O O O O O O ?_))|(apply D6)|(apply F3)|((fail_if_success (refine J5 (id:=36) ?_));apply A7)|(refine G5 O ?_;first|(apply I1)|(apply H7))|(apply C9))
  repeat' (first|(apply E8;first|(apply A8;refine A9 ?_)|(apply D5;refine D9 O O ?_)|(apply H5;first|refine H6 O O O (cC _ inferInstance) O O ?_ |(refine c_call O O O (o7 PickOwn.here (cS _)) O O ?_;rintro _ _ ⟨rfl,rfl⟩)))|(apply Q0;refine N8 (k:=0) J3 ?_)|(apply U3;first|(refine L8 O ?_)|(refine O4 O O O O (by kernel_rfl) (by decide+kernel) (by decide+kernel) ?_;first|(apply O1;refine G9 (P9 O O) ?_)|(apply R9;refine R6 O ?_;first|refine F4 O ?_ |refine O9 O O ?_)|(apply M3;refine G9 (D8 O O) ?_)|(apply R5;refine G9 (F6 O O) ?_))|(refine O5 O ?_)|(refine N9 (by decide+kernel) ?_)|(refine Q6 (by kernel_rfl) ?_))|(apply V3;first|(refine Q5 O)|(refine U1 (by decide+kernel) ?_)|(refine Q3 O ?_ ?_))|(apply D6)|(apply I4)|(apply A7)|(apply C9)|(apply H9)|(refine J5 (id:=36) ?_;refine AA6 (a:=some ⟨gb,0,none⟩) ?_))
  all_goals exact I8 (.blk tb 158 _:: .own 97 4 (some ⟨gb,0,none⟩) gn gc (qds C')::K) (by (exact .inr O)) O J3 ⟨O,O⟩
theorem A26 (K:List Ent) (s:Scr) (h:OkS s) (gb gn gc:Nat) (oa:Option Addr) (on oc:Nat) (pa:Option Addr) (pn pc:Nat) (hgn:gn=s.C.length) (hgc:gn≤gc) (n k:Int) (hn:1≤n∧n≤16383) (c n':Int) (hcn:(c=77∧n'=n)∨(c=76∧n'= -n)) (hw:s.top≤s.row∧s.row≤s.bot-1):SC Tryz.prog G 169 [.pointer (some ⟨tb,0,none⟩),.int .i64 c,.int .i64 n,.int .i64 k] (.blk tb 158 (trmC s (some ⟨gb,0,none⟩) gn gc oa on oc pa pn pc t):: .own 97 4 (some ⟨gb,0,none⟩) gn gc (qds s.C)::K) fun v H'=>v= .bool true∧H'= .blk tb 158 (trmC (colA (rollA s s.row s.bot n') 0) (some ⟨gb,0,none⟩) gn gc oa on oc pa pn pc t):: .own 97 4 (some ⟨gb,0,none⟩) gn gc (qds (colA (rollA s s.row s.bot n') 0).C)::K:=by
 have hz:=h.g.size
 have ht:=h.top
 have hr:=h.row
 have hl1:=h.g.len1
 have hneg:IntKind.i64.wrap (0-n)= -n:=(IntWalk.i64_in (0-n) (by omega)).trans (by omega)
 have cC:=fun (H:List Ent) (_:HasBlk H tb 158 (trmC s (some ⟨gb,0,none⟩) gn gc oa on oc pa pn pc t))=>AJ5 G H s tb (some ⟨gb,0,none⟩) gn gc oa on oc pa pn pc t
 have cS:=fun (H:List Ent)=>AO0 G H s.C gb s.w s.h gn gc s.row.toNat s.bot.toNat n' 0 0 s.pb hgn h.g.len (by rw[hgn];exact hl1) hgc hz.1 hz.2.2 (by omega) (by omega) (by omega)
 rw[Int.toNat_of_nonneg (show 0≤s.row by omega),Int.toNat_of_nonneg (show 0≤s.bot by omega)] at cS
 have cO:∀H,SC Tryz.prog G 152 [.pointer (some ⟨tb,0,none⟩),.int .i64 0] (.blk tb 158 (trmC (rollA s s.row s.bot n') (some ⟨gb,0,none⟩) gn gc oa on oc pa pn pc t)::H) fun v H'=>v=resV []∧H'= .blk tb 158 (trmC (colA (rollA s s.row s.bot n') 0) (some ⟨gb,0,none⟩) gn gc oa on oc pa pn pc t)::H:=fun (H:List Ent)=>AP0 G H (rollA s s.row s.bot n') 0 tb (some ⟨gb,0,none⟩) gn gc oa on oc pa pn pc t (by show s.w≤1000;omega)
 have cW:=fun (H:List Ent)=>AT6 G H s.row s.top (s.bot-1)
 rw[decide_eq_true hw] at cW
 have e3:(colA (rollA s s.row s.bot n') 0).C=scrC s.C s.w s.h s.row.toNat s.bot.toNat n' (32,0,0,s.pb):=rfl
 rw[e3]
 generalize trmC (colA (rollA s s.row s.bot n') 0) (some ⟨gb,0,none⟩) gn gc oa on oc pa pn pc t=cs2 at *
 unfold rollA at cO
 generalize scrC s.C s.w s.h s.row.toNat s.bot.toNat n' (32,0,0,s.pb)=C' at *
 clear e3
 unfold trmC at *
 rcases hcn with ⟨rfl,rfl⟩|⟨rfl,rfl⟩
 ·refine Y6 Tryz.func169 O O O O O ?_
  repeat' (first|(apply E8;first|(apply A8;refine A9 ?_)|(apply C8;refine D7 O O ?_)|(apply E5;refine F7 O O O ?_;refine F9 O ?_)|(apply F5;refine F8 O O ?_;refine F4 O ?_)|(apply D5;refine D9 O O ?_)|(apply G6;refine G7 (D8 O O) O ?_)|(apply I9;refine J7 (F6 O O) O ?_))|(apply u7;first|(apply Y3;refine Y2 ?_)|(apply Y8;refine j5 O O ?_)|(apply AA5;refine AC8 O O O ?_;apply U8;refine V4 ⟨by omega,by omega⟩ ?_)|(apply V8;refine Y4 O O ?_;refine F4 O ?_)|(apply V9;refine X9 (D8 O O) O ?_)|(apply p8;refine AA0 (F6 O O) O ?_)|(apply AE3;refine V7 O O O (cW _) O O ?_))|(apply D6)|(apply G8)|(apply F3)|((fail_if_success (refine J5 (id:=29) ?_));apply A7)|(refine G5 O ?_;first|(apply I1)|(apply H7))|(apply C9)|((fail_if_success (refine J5 (id:=29) ?_));refine V6 (by kernel_rfl) ?_))
  repeat' (first|(apply E8;first|(apply A8;refine A9 ?_)|(apply C8;refine D7 O O ?_)|(apply D5;refine D9 O O ?_)|(apply H5;first|refine H6 O O O (cC _ inferInstance) O O ?_ |(refine c_call O O O (o7 PickOwn.here (cS _)) O O ?_;rintro _ _ ⟨rfl,rfl⟩)|(refine c_call O O O (o7 PickBlk.here (cO _)) O O ?_;rintro _ _ ⟨rfl,rfl⟩)))|(apply Q0;refine N8 (k:=0) J3 ?_)|(apply U3;first|(refine L8 O ?_)|(refine O4 O O O O (by kernel_rfl) (by decide+kernel) (by decide+kernel) ?_;first|(apply O1;refine G9 (P9 O O) ?_)|(apply R9;refine R6 O ?_;first|refine F4 O ?_ |refine O9 O O ?_)|(apply M3;refine G9 (D8 O O) ?_)|(apply R5;refine G9 (F6 O O) ?_))|(refine O5 O ?_)|(refine N9 (by decide+kernel) ?_)|(refine Q6 (by kernel_rfl) ?_))|(apply V3;first|(refine Q5 O)|(refine U1 (by decide+kernel) ?_)|(refine Q3 O ?_ ?_))|(apply D6)|(apply I4)|(apply A7)|(apply C9)|(apply H9)|(refine J5 (id:=29) ?_;refine AA6 (a:=some ⟨gb,0,none⟩) ?_))
  all_goals exact I8 (.blk tb 158 _:: .own 97 4 (some ⟨gb,0,none⟩) gn gc (qds C')::K) (by (exact .inr O)) O J3 ⟨O,O⟩
 ·rw[←hneg] at cS
  refine Y6 Tryz.func169 O O O O O ?_
  repeat' (first|(apply E8;first|(apply A8;refine A9 ?_)|(apply C8;refine D7 O O ?_)|(apply E5;refine F7 O O O ?_;refine F9 O ?_)|(apply F5;refine F8 O O ?_;refine F4 O ?_)|(apply D5;refine D9 O O ?_)|(apply G6;refine G7 (D8 O O) O ?_)|(apply X5;refine Z9 (Z8 O O O) O ?_)|(apply I9;refine J7 (F6 O O) O ?_))|(apply u7;first|(apply Y3;refine Y2 ?_)|(apply Y8;refine j5 O O ?_)|(apply AA5;refine AC8 O O O ?_;apply U8;refine V4 ⟨by omega,by omega⟩ ?_)|(apply V8;refine Y4 O O ?_;refine F4 O ?_)|(apply V9;refine X9 (D8 O O) O ?_)|(apply p8;refine AA0 (F6 O O) O ?_)|(apply AE3;refine V7 O O O (cW _) O O ?_))|(apply D6)|(apply G8)|(apply F3)|((fail_if_success (refine J5 (id:=29) ?_));apply A7)|(refine G5 O ?_;first|(apply I1)|(apply H7))|(apply C9)|((fail_if_success (refine J5 (id:=29) ?_));refine V6 (by kernel_rfl) ?_))
  repeat' (first|(apply E8;first|(apply A8;refine A9 ?_)|(apply C8;refine D7 O O ?_)|(apply D5;refine D9 O O ?_)|(apply H5;first|refine H6 O O O (cC _ inferInstance) O O ?_ |(refine c_call O O O (o7 PickOwn.here (cS _)) O O ?_;rintro _ _ ⟨rfl,rfl⟩)|(refine c_call O O O (o7 PickBlk.here (cO _)) O O ?_;rintro _ _ ⟨rfl,rfl⟩)))|(apply Q0;refine N8 (k:=0) J3 ?_)|(apply U3;first|(refine L8 O ?_)|(refine O4 O O O O (by kernel_rfl) (by decide+kernel) (by decide+kernel) ?_;first|(apply O1;refine G9 (P9 O O) ?_)|(apply R9;refine R6 O ?_;first|refine F4 O ?_ |refine O9 O O ?_)|(apply M3;refine G9 (D8 O O) ?_)|(apply R5;refine G9 (F6 O O) ?_))|(refine O5 O ?_)|(refine N9 (by decide+kernel) ?_)|(refine Q6 (by kernel_rfl) ?_))|(apply V3;first|(refine Q5 O)|(refine U1 (by decide+kernel) ?_)|(refine Q3 O ?_ ?_))|(apply D6)|(apply I4)|(apply A7)|(apply C9)|(apply H9)|(refine J5 (id:=29) ?_;refine AA6 (a:=some ⟨gb,0,none⟩) ?_))
  all_goals exact I8 (.blk tb 158 _:: .own 97 4 (some ⟨gb,0,none⟩) gn gc (qds C')::K) (by (exact .inr O)) O J3 ⟨O,O⟩
theorem Bk6 (H:List Ent) (s:Scr) (h:OkS s) (ga:Option Addr) (gn gc:Nat) (oa:Option Addr) (on oc:Nat) (pa:Option Addr) (pn pc:Nat) (n k c:Int) (hn:1≤n∧n≤16383) (hc:c=76∨c=77) (hw:¬(s.top≤s.row∧s.row≤s.bot-1)):SC Tryz.prog G 169 [.pointer (some ⟨tb,0,none⟩),.int .i64 c,.int .i64 n,.int .i64 k] (.blk tb 158 (trmC s ga gn gc oa on oc pa pn pc t)::H) fun v H'=>v= .bool true∧H'= .blk tb 158 (trmC s ga gn gc oa on oc pa pn pc t)::H:=by
 have ht:=h.top
 have hz:=h.g.size
 have cW:=fun (H:List Ent)=>AT6 G H s.row s.top (s.bot-1)
 rw[decide_eq_false hw] at cW
 unfold trmC
 refine Y6 Tryz.func169 O O O O O ?_
 rcases hc with rfl|rfl
 all_goals
  repeat' (first|(apply E8;first|(apply A8;refine A9 ?_)|(apply C8;refine D7 O O ?_)|(apply E5;refine F7 O O O ?_;refine F9 O ?_)|(apply F5;refine F8 O O ?_;refine F4 O ?_)|(apply D5;refine D9 O O ?_)|(apply G6;refine G7 (D8 O O) O ?_)|(apply X5;refine Z9 (Z8 O O O) O ?_)|(apply I9;refine J7 (F6 O O) O ?_))|(apply u7;first|(apply Y3;refine Y2 ?_)|(apply Y8;refine j5 O O ?_)|(apply AA5;refine AC8 O O O ?_;apply U8;refine V4 ⟨by omega,by omega⟩ ?_)|(apply V8;refine Y4 O O ?_;refine F4 O ?_)|(apply V9;refine X9 (D8 O O) O ?_)|(apply p8;refine AA0 (F6 O O) O ?_)|(apply AE3;refine V7 O O O (cW _) O O ?_))|(apply D6)|(apply G8)|(apply I4)|(apply F3)|(apply A7)|(refine G5 O ?_;first|(apply I1)|(apply H7))|(apply C9)|(apply H9)|refine V6 (by kernel_rfl) ?_)
  all_goals exact I8 _ (by (exact .inr O)) O (fun _ hw=>hw) ⟨O,O⟩
theorem Bg9 (H:List Ent) (s:Scr) (ga:Option Addr) (gn gc:Nat) (oa:Option Addr) (on oc:Nat) (pa:Option Addr) (pn pc:Nat) (n k c:Int) (hc:¬c=64∧¬c=80∧¬c=74∧¬c=75∧¬c=88∧¬c=76∧¬c=77∧¬c=83∧¬c=84):SC Tryz.prog G 169 [.pointer (some ⟨tb,0,none⟩),.int .i64 c,.int .i64 n,.int .i64 k] (.blk tb 158 (trmC s ga gn gc oa on oc pa pn pc t)::H) fun v H'=>v= .bool false∧H'= .blk tb 158 (trmC s ga gn gc oa on oc pa pn pc t)::H:=by
 obtain⟨c1,c2,c3,c4,c5,c6,c7,c8,c9⟩:=hc
 unfold trmC
 refine Y6 Tryz.func169 O O O O O ?_
 repeat' (first|(apply E8;first|(apply A8;refine A9 ?_)|(apply C8;refine D7 O O ?_)|(apply E5;refine F7 O O O ?_;refine F9 O ?_)|(apply F5;refine F8 O O ?_;refine F4 O ?_)|(apply D5;refine D9 O O ?_)|(apply G6;refine G7 (D8 O O) O ?_)|(apply I9;refine J7 (F6 O O) O ?_))|(apply D6)|(apply I4)|(apply F3)|(apply A7)|(refine G5 O ?_;apply E9<;>intro hq<;>(try (exfalso;omega)))|(apply C9)|(apply J8)|(apply U5))
 all_goals exact I8 _ (by (exact .inr O)) O (fun _ hw=>hw) ⟨O,O⟩
theorem B21 (K H:List Ent) (s:Scr) (h:OkS s) (hq:TmQ G tb t s K H) (n k:Int):SC Tryz.prog G 169 [.pointer (some ⟨tb,0,none⟩),.int .i64 75,.int .i64 n,.int .i64 k] H fun v H'=>v= .bool true∧TmQ G tb t (if 0≤k∧k≤2 then lineA s k else s) K H':=by
 have cL:=lineQ G tb t K H s h hq k
 generalize decide (0≤k∧k≤2)=bb at *
 generalize (if 0≤k∧k≤2 then lineA s k else s)=s2 at *
 obtain⟨gb,gn,gc,ob,on,oc,P,pa,pn,pc,X,E,rfl,hi⟩:=hq
 unfold trmC at *
 refine Y6 Tryz.func169 O O O O O ?_
 repeat' (first|(apply E8;first|(apply A8;refine A9 ?_)|(apply C8;refine D7 O O ?_)|(apply E5;refine F7 O O O ?_;refine F9 O ?_)|(apply F5;refine F8 O O ?_;refine F4 O ?_)|(apply D5;refine D9 O O ?_)|(apply G6;refine G7 (D8 O O) O ?_)|(apply I9;refine J7 (F6 O O) O ?_)|(apply H5;refine c_call O O O cL O O ?_;rintro _ _ ⟨rfl,hq1⟩))|(apply D6)|(apply I4)|(apply F3)|(apply A7)|(refine G5 O ?_;first|(apply I1)|(apply H7))|(apply C9)|(apply H9))
 all_goals exact I8 _ (by (exact .inr O)) O (fun _ hw=>hw) ⟨O,hq1⟩
theorem By3 (K H:List Ent) (s:Scr) (h:OkS s) (hq:TmQ G tb t s K H) (n k:Int) (hn:1≤n∧n≤16383):SC Tryz.prog G 169 [.pointer (some ⟨tb,0,none⟩),.int .i64 88,.int .i64 n,.int .i64 k] H fun v H'=>v= .bool true∧TmQ G tb t (fillA s s.row s.col (min (s.col+n) s.w)) K H':=by
 have hz:=h.g.size
 have hc:=h.col
 have cF:=fillQ G tb t K H s h hq s.row s.col (min (s.col+n) s.w) h.row (by omega)
 generalize fillA s s.row s.col (min (s.col+n) s.w)=s2 at *
 obtain⟨gb,gn,gc,ob,on,oc,P,pa,pn,pc,X,E,rfl,hi⟩:=hq
 unfold trmC at *
 refine Y6 Tryz.func169 O O O O O ?_
 repeat' (first|(apply E8;first|(apply A8;refine A9 ?_)|(apply C8;refine D7 O O ?_)|(apply E5;refine F7 O O O ?_;refine F9 O ?_)|(apply F5;refine F8 O O ?_;refine F4 O ?_)|(apply D5;refine D9 O O ?_)|(apply G6;refine G7 (D8 O O) O ?_)|(apply I9;refine J7 (F6 O O) O ?_))|(apply D6)|(apply F3)|((fail_if_success (refine J5 (id:=23) ?_));apply A7)|(refine G5 O ?_;first|(apply I1)|(apply H7))|(apply C9))
 refine AE0 20 _ [] (fun _ hw=>hw) O ?_
 repeat' (first|(apply E8;first|(apply A8;refine A9 ?_)|(apply D5;refine D9 O O ?_)|(apply H5;refine c_call O O O cF O O ?_;rintro _ _ ⟨rfl,hq1⟩)|(apply K5;refine s_call (Bb2 O O O) O ?_))|(apply Q0;refine N8 (k:=0) J3 ?_)|(apply AN7;refine AK7 (k:=0) J3 ?_)|(apply U3;first|(refine L8 O ?_)|(refine N9 (by decide+kernel) ?_))|(apply AL2;first|(refine AH9 O ?_)|(refine AC5 O O O O (by kernel_rfl) (by decide+kernel) (by decide+kernel) (by decide+kernel) ?_;first|(apply O1;refine G9 (P9 O O) ?_)|(apply AG6;refine AG7 O O ?_;apply K9;refine L6 ⟨by omega,by omega⟩ ?_)|(apply R9;refine R6 O ?_;refine F4 O ?_)|(apply M3;refine G9 (D8 O O) ?_)|(apply R5;refine G9 (F6 O O) ?_))|(refine AC9 O ?_)|(refine AE2 (by kernel_rfl) ?_))|(apply AL3;first|(refine AE1 O)|(refine AH6 (by decide+kernel) ?_)|(refine AH3 O O ?_ ?_)|(refine AK8 O O ?_ ?_))|(apply D6)|(apply I4)|((fail_if_success (refine J5 (id:=23) ?_));apply A7)|(apply C9)|(apply H9))
 all_goals exact I8 _ (by (exact .inr O)) O (fun _ hw=>hw) ⟨O,hq1⟩
end
theorem TmQ.noPast {G:Ctx} {tb:Nat} {t:ByteArray} {s:Scr} {gb gn gc ob on oc:Nat} {P:Ent} {pa:Option Addr} {pn pc:Nat} {X:List (Rx Qd)} {E K:List Ent} (h:TmI G s gn gc on oc P pa pn pc X E):TmQ G tb t {s with past:=[]} K (.blk tb 158 (trmC s (some ⟨gb,0,none⟩) gn gc (some ⟨ob,0,none⟩) on oc none 0 0 t):: .own 97 4 (some ⟨gb,0,none⟩) gn gc (qds s.C):: .own 97 4 (some ⟨ob,0,none⟩) on oc (qds s.D):: .own 119 1 none 0 0 []::(E++K)):=
 ⟨gb,gn,gc,ob,on,oc,_,none,0,0,[],E,rfl,RowE.own none 0 0 [],RdX.nil,rfl,h.gn',h.gc',h.on',h.oc',rfl⟩
theorem Aj6 (s:Scr) (k row:Int):∀n,(rowsTo s k row n).row=s.row∧(rowsTo s k row n).w=s.w∧(rowsTo s k row n).h=s.h
 | 0=>⟨rfl,rfl,rfl⟩
 | n+1=>by
   have h:=Aj6 s k row n
   rw[AX7]
   unfold wideA
   split
   ·exact h
   ·exact h
section
attribute [local irreducible] SW SL SQ AtQ SV SC BB LD PK Yields SO SOT SOA SY SP SPT SPA
variable (G:Ctx) (tb:Nat) (t:ByteArray)
theorem Bg8 (K H:List Ent) (s:Scr) (h:OkS s) (hq:TmQ G tb t s K H) (n:Int):SC Tryz.prog G 169 [.pointer (some ⟨tb,0,none⟩),.int .i64 74,.int .i64 n,.int .i64 3] H fun v H'=>v= .bool true∧TmQ G tb t {s with past:=[]} K H':=by
 have h2:OkS {s with past:=[]}:=h.pageJ 3
 obtain⟨gb,gn,gc,ob,on,oc,P,pa,pn,pc,X,E,rfl,hi⟩:=hq
 have hq2:TmQ G tb t {s with past:=[]} K _:=TmQ.noPast (tb:=tb) (t:=t) (gb:=gb) (ob:=ob) (K:=K) hi
 have cL:=lineQ G tb t K _ _ h2 hq2 3
 rw[if_neg (by decide),show decide ((0:Int)≤3∧(3:Int)≤2)=false from rfl] at cL
 generalize ({s with past:=[]}:Scr)=s2 at *
 unfold trmC at *
 refine Y6 Tryz.func169 O O O O O ?_
 repeat' (first|(apply E8;first|(apply A8;refine A9 ?_)|(apply C8;refine D7 O O ?_)|(apply E5;refine F7 O O O ?_;refine F9 O ?_)|(apply F5;refine F8 O O ?_;refine F4 O ?_)|(apply D5;refine D9 O O ?_)|(apply G6;refine G7 (D8 O O) O ?_)|(apply I9;refine J7 (F6 O O) O ?_)|(apply H8;refine M9 O O O O O O O ?_))|(apply D6)|(apply F3)|((fail_if_success (refine J5 (id:=13) ?_));apply A7)|(refine G5 O ?_;first|(apply I1)|(apply H7))|(apply C9))
 refine Z5 (.blk tb 158 _:: .own 97 4 (some ⟨gb,0,none⟩) gn gc (qds s.C):: .own 97 4 (some ⟨ob,0,none⟩) on oc (qds s.D):: .own 119 1 none 0 0 []::(E++K)) (fun w hw=>(hw.nilrow 119 1).subs (by repeat (first|refine Subs.cons (by repeat constructor) ?_ |exact Subs.sub O0))) ?_
 repeat' (first|(apply E8;first|(apply A8;refine A9 ?_)|(apply C8;refine D7 O O ?_)|(apply D5;refine D9 O O ?_)|(apply X5;refine Z9 (Z8 O O O) O ?_)|(apply H5;refine c_call O O O cL O O ?_;rintro _ _ ⟨rfl,hq1⟩))|(apply D6)|(apply I4)|(apply O7)|(apply A7)|(refine G5 O ?_;apply I1)|(apply C9)|(apply K3)|(apply K4))
 all_goals exact I8 _ (by (exact .inr O)) O (fun _ hw=>hw) ⟨O,hq1⟩
theorem Bn0 (K H:List Ent) (s:Scr) (h:OkS s) (hq:TmQ G tb t s K H) (n k:Int) (hk:¬(0≤k∧k≤2)∧k≠3):SC Tryz.prog G 169 [.pointer (some ⟨tb,0,none⟩),.int .i64 74,.int .i64 n,.int .i64 k] H fun v H'=>v= .bool true∧TmQ G tb t s K H':=by
 have cL:=lineQ G tb t K _ s h hq k
 rw[if_neg hk.1,decide_eq_false hk.1] at cL
 have hk3:=hk.2
 obtain⟨gb,gn,gc,ob,on,oc,P,pa,pn,pc,X,E,rfl,hi⟩:=hq
 unfold trmC at *
 refine Y6 Tryz.func169 O O O O O ?_
 repeat' (first|(apply E8;first|(apply A8;refine A9 ?_)|(apply C8;refine D7 O O ?_)|(apply E5;refine F7 O O O ?_;refine F9 O ?_)|(apply F5;refine F8 O O ?_;refine F4 O ?_)|(apply D5;refine D9 O O ?_)|(apply G6;refine G7 (D8 O O) O ?_)|(apply X5;refine Z9 (Z8 O O O) O ?_)|(apply I9;refine J7 (F6 O O) O ?_)|(apply H5;refine c_call O O O cL O O ?_;rintro _ _ ⟨rfl,hq1⟩))|(apply D6)|(apply G8)|(apply I4)|(apply O7)|(apply F3)|(apply A7)|(refine G5 O ?_;first|(apply I1)|(apply H7)|(apply E9<;>intro hq<;>(try (exfalso;omega))))|(apply C9)|(apply K3)|(apply K4))
 all_goals exact I8 _ (by (exact .inr O)) O (fun _ hw=>hw) ⟨O,hq1⟩
theorem Bz1 (K H:List Ent) (s:Scr) (h:OkS s) (hq:TmQ G tb t s K H) (n k:Int) (hk:0≤k∧k≤2):SC Tryz.prog G 169 [.pointer (some ⟨tb,0,none⟩),.int .i64 74,.int .i64 n,.int .i64 k] H fun v H'=>v= .bool true∧TmQ G tb t (rowsTo (lineA s k) k s.row s.h) K H':=by
 have cL:=lineQ G tb t K _ s h hq k
 have hL:=h.line k
 have hRT:=fun j (hj:j≤s.h)=>hL.rowsT k s.row j hj
 have hRS:=Aj6 (lineA s k) k s.row
 have hRw:(lineA s k).w=s.w:=rfl
 have hRr:(lineA s k).row=s.row:=rfl
 have hRh:(lineA s k).h=s.h:=rfl
 have hRn:=AX7 (lineA s k) k s.row
 have hR0:rowsTo (lineA s k) k s.row 0=lineA s k:=rfl
 rw[if_pos hk,decide_eq_true hk] at cL
 have hz:=h.g.size
 have hr:=h.row
 generalize lineA s k=s1 at *
 have hk3:k=0∨k=1∨k=2:=by omega
 obtain⟨gb,gn,gc,ob,on,oc,P,pa,pn,pc,X,E,rfl,hi⟩:=hq
 unfold trmC at *
 refine Y6 Tryz.func169 O O O O O ?_
 repeat' (first|(apply E8;first|(apply A8;refine A9 ?_)|(apply C8;refine D7 O O ?_)|(apply E5;refine F7 O O O ?_;refine F9 O ?_)|(apply F5;refine F8 O O ?_;refine F4 O ?_)|(apply D5;refine D9 O O ?_)|(apply G6;refine G7 (D8 O O) O ?_)|(apply X5;refine Z9 (Z8 O O O) O ?_)|(apply I9;refine J7 (F6 O O) O ?_)|(apply H5;refine c_call O O O cL O O ?_;rintro _ _ ⟨rfl,hq1⟩))|(apply D6)|(apply G8)|(apply F3)|((fail_if_success (refine J5 (id:=14) ?_));apply A7)|(refine G5 O ?_;first|(apply I1)|(apply H7)|(apply E9<;>intro hq<;>(try (exfalso;omega))))|(apply C9))
 clear hi cL
 have hq2:=hq1
 obtain⟨gb,gn,gc,ob,on,oc,P,pa,pn,pc,X,E,rfl,hi⟩:=hq1
 unfold trmC
 repeat' (first|(apply E8;first|(apply A8;refine A9 ?_)|(apply C8;refine D7 O O ?_)|(apply F5;refine F8 O O ?_;refine F4 O ?_)|(apply G6;refine G7 (D8 O O) O ?_)|(apply I9;refine J7 (F6 O O) O ?_))|(apply F3)|((fail_if_success (refine J5 (id:=15) ?_));apply A7)|(apply C9))
 refine R7 (α:=Nat×List Ent) (fun g=>[(0,.pointer (some ⟨tb,0,none⟩)),(3,.int .i64 k),(9,.int .i64 s.w),(66,.int .i64 s1.h),(67,.int .i64 g.1)]) (fun g=>g.2)
  (fun g=>g.1≤s.h∧TmQ G tb t (rowsTo s1 k s.row g.1) K g.2) (fun g=>s.h-g.1) (0,_) ⟨Nat.zero_le _,hq2⟩ Q7 (fun _ hw=>hw) ?_
 clear hi hq2
 rintro ⟨j,Hj⟩ ⟨hj,hqj⟩
 dsimp only at hj hqj ⊢
 by_cases hlt:(j:Int)<s1.h
 ·have hjo:=hRT j hj
  have hjs:=hRS j
  have hjn:=hRn j
  rw[hRw,hRr,hRh] at hjs
  clear hRT hRS hRn
  generalize rowsTo s1 k s.row j=sj at *
  have hqj0:=hqj
  obtain⟨gb,gn,gc,ob,on,oc,P,pa,pn,pc,X,E,rfl,hi⟩:=hqj
  have hrow:=hjs.1
  by_cases hw:k=2∨(k=0∧s.row<j)∨(k=1∧(j:Int)<s.row)
  ·have cF:=fillQ G tb t K _ sj hjo.1 hqj0 j 0 s.w (by omega) (by omega)
   have e:wideA sj k s.row j=fillA sj j 0 s.w:=by unfold wideA;rw[if_pos hw,hjs.2.1]
   rw[e] at hjn
   generalize fillA sj j 0 s.w=sk at *
   unfold trmC at *
   rcases hk3 with rfl|rfl|rfl
   all_goals
    repeat' (first|(apply E8;first|(apply A8;refine A9 ?_)|(apply C8;refine D7 O O ?_)|(apply E5;refine F7 O O O ?_;first|(apply K9;refine L6 ⟨by omega,by omega⟩ ?_)|refine F9 O ?_)|(apply F5;refine F8 O O ?_;refine F4 O ?_)|(apply D5;refine D9 O O ?_)|(apply I6;refine J4 O O ?_;first|(apply P7;refine P6 O ?_)|(apply M6;refine M7 O ?_))|(apply G6;refine G7 (D8 O O) O ?_)|(apply I9;refine J7 (F6 O O) O ?_)|(apply H5;refine c_call O O O cF O O ?_;rintro _ _ ⟨rfl,hq3⟩)|(apply I5;first|(refine J9 O O O O ?_;first|(apply I1)|(apply H7)|(apply d9)|(apply P5<;>intro hq<;>(try (exfalso;omega))))|refine o8 O O O O O O ?_))|(apply D6)|(apply G8)|(apply F3)|(apply A7)|(refine G5 O ?_;first|(apply I1)|(apply E9<;>intro hq<;>(try (exfalso;omega))))|(apply C9)|(apply H9))
    exact J6 (j+1,_) ⟨⟨by dsimp only;omega,by dsimp only;rw[hjn];exact hq3⟩,by dsimp only;omega⟩ Q7 (fun _ hw=>hw)
  ·have e:wideA sj k s.row j=sj:=by unfold wideA;rw[if_neg hw]
   rw[e] at hjn
   unfold trmC at *
   rcases hk3 with rfl|rfl|rfl
   all_goals
    repeat' (first|(apply E8;first|(apply A8;refine A9 ?_)|(apply C8;refine D7 O O ?_)|(apply E5;refine F7 O O O ?_;first|(apply K9;refine L6 ⟨by omega,by omega⟩ ?_)|refine F9 O ?_)|(apply F5;refine F8 O O ?_;refine F4 O ?_)|(apply D5;refine D9 O O ?_)|(apply I6;refine J4 O O ?_;first|(apply P7;refine P6 O ?_)|(apply M6;refine M7 O ?_))|(apply G6;refine G7 (D8 O O) O ?_)|(apply I9;refine J7 (F6 O O) O ?_)|(apply I5;refine J9 O O O O ?_;first|(apply I1)|(apply H7)|(apply P5<;>intro hq<;>(try (exfalso;omega)))))|(apply D6)|(apply G8)|(apply F3)|(apply A7)|(refine G5 O ?_;first|(apply H7)|(apply E9<;>intro hq<;>(try (exfalso;omega))))|(apply C9)|(apply H9))
    all_goals exact J6 (j+1,_) ⟨⟨by dsimp only;omega,by dsimp only;rw[hjn];exact hqj0⟩,by dsimp only;omega⟩ Q7 (fun _ hw=>hw)
 ·obtain rfl:j=s.h:=by omega
  repeat' (first|(apply E8;first|(apply A8;refine A9 ?_)|(apply E5;refine F7 O O O ?_;refine F9 O ?_)|(apply D5;refine D9 O O ?_))|(apply D6)|(apply I4)|(apply O7)|(apply A7)|(refine G5 O ?_;apply E9<;>intro hq<;>(try (exfalso;omega)))|(apply C9)|(apply K3)|(apply H9)|(apply K4))
  all_goals exact I8 _ (by (exact .inr O)) O (fun _ hw=>hw) ⟨O,hqj⟩
theorem B42 (K H:List Ent) (s:Scr) (h:OkS s) (hq:TmQ G tb t s K H) (c n k:Int) (hn:1≤n∧n≤16383) (hk:0≤k):SC Tryz.prog G 169 [.pointer (some ⟨tb,0,none⟩),.int .i64 c,.int .i64 n,.int .i64 k] H fun v H'=>v= .bool (AN4 s c n k).isSome∧TmQ G tb t ((AN4 s c n k).getD s) K H':=by
 have ht:=h.top
 unfold AN4
 by_cases g1:c=64
 ·rw[if_pos g1]
  exact hq.grid (TmQ.shiftQ h.lateA n) O O fun gb gn gc oa on oc pa pn pc H hgn hgc=>A74 G tb t H s h gb gn gc oa on oc pa pn pc hgn hgc n k hn c n (.inl ⟨g1,O⟩)
 rw[if_neg g1]
 by_cases g2:c=80
 ·rw[if_pos g2]
  exact hq.grid (TmQ.shiftQ h.lateA (-n)) O O fun gb gn gc oa on oc pa pn pc H hgn hgc=>A74 G tb t H s h gb gn gc oa on oc pa pn pc hgn hgc n k hn c (-n) (.inr ⟨g2,O⟩)
 rw[if_neg g2]
 by_cases g3:c=74
 ·rw[if_pos g3]
  subst g3
  unfold pageJ
  by_cases g:k=3
  ·rw[if_pos g];subst g
   exact Bg8 G tb t K H s h hq n
  rw[if_neg g]
  by_cases g':0≤k∧k≤2
  ·rw[if_pos g']
   exact Bz1 G tb t K H s h hq n k g'
  ·rw[if_neg g']
   exact Bn0 G tb t K H s h hq n k ⟨g',g⟩
 rw[if_neg g3]
 by_cases g4:c=75
 ·rw[if_pos g4];subst g4
  exact B21 G tb t K H s h hq n k
 rw[if_neg g4]
 by_cases g5:c=88
 ·rw[if_pos g5];subst g5
  exact By3 G tb t K H s h hq n k hn
 rw[if_neg g5]
 by_cases g6:c=76∨c=77
 ·rw[if_pos g6]
  by_cases hw:s.top≤s.row∧s.row≤s.bot-1
  ·rw[if_pos hw]
   have hl:∀n',(colA (rollA s s.row s.bot n') 0).C.length=s.C.length:=fun n'=>Ab3 h.g _ _ _ _ (by omega) (AP9 h.pen)
   rcases g6 with g6|g6
   ·rw[if_pos g6]
    exact hq.grid (hl _) O O fun gb gn gc oa on oc pa pn pc H hgn hgc=>A26 G tb t H s h gb gn gc oa on oc pa pn pc hgn hgc n k hn c (-n) (.inr ⟨g6,O⟩) hw
   ·rw[if_neg (by omega)]
    exact hq.grid (hl _) O O fun gb gn gc oa on oc pa pn pc H hgn hgc=>A26 G tb t H s h gb gn gc oa on oc pa pn pc hgn hgc n k hn c n (.inl ⟨g6,O⟩) hw
  ·rw[if_neg hw]
   exact hq.blk O O O fun ga gn gc oa on oc pa pn pc H=>Bk6 G tb t H s h ga gn gc oa on oc pa pn pc n k c hn g6 hw
 rw[if_neg g6]
 have hl:∀n',(rollA (lateA s) s.top s.bot n').C.length=s.C.length:=fun n'=>Ab3 h.g _ _ _ _ (by omega) (AP9 h.pen)
 by_cases g7:c=83
 ·rw[if_pos g7]
  exact hq.grid (hl _) O O fun gb gn gc oa on oc pa pn pc H hgn hgc=>A16 G tb t H s h gb gn gc oa on oc pa pn pc hgn hgc n k hn c n (.inl ⟨g7,O⟩)
 rw[if_neg g7]
 by_cases g8:c=84
 ·rw[if_pos g8]
  exact hq.grid (hl _) O O fun gb gn gc oa on oc pa pn pc H hgn hgc=>A16 G tb t H s h gb gn gc oa on oc pa pn pc hgn hgc n k hn c (-n) (.inr ⟨g8,O⟩)
 rw[if_neg g8]
 exact hq.blk O O O fun ga gn gc oa on oc pa pn pc H=>Bg9 G tb t H s ga gn gc oa on oc pa pn pc n k c (by omega)
end
theorem AG0 (t:ByteArray):t++e0=t:=by
 apply ByteArray.ext
 rw[ByteArray.data_append]
 exact Array.append_empty
theorem AX1 (n:Int) (h: -9223372036854775808≤n∧n≤9223372036854775807):(decB n).size≤21:=Lib.itoa_length_le n h.1 h.2
section
attribute [local irreducible] SW SL SQ AtQ SV SC BB LD PK Yields SO SOT SOA SY SP SPT SPA
theorem A88 (G:Ctx) (H:List Ent) (hT:AB2 G H) (n:Int) (h: -9223372036854775808≤n∧n≤9223372036854775807):SV Tryz.prog G 50 [.int .i64 n] H (.string (decB n)):=
 u6 (l8 Tryz.func50 rfl rfl) fun w hw=>(Tryz.strconv_Itoa n h.1 h.2 w (hT w hw)).mono fun e w' ⟨he,k,os,hw'⟩=>
  ⟨he,by rw[hw'];exact Lib.below_grow _ w (Nat.le_refl _) k os⟩
end
section
attribute [local irreducible] SW SL SQ AtQ SV SC BB LD PK Yields SO SOT SOA SY SP SPT SPA
variable (G:Ctx) (tb:Nat) (t:ByteArray)
theorem Bb1 (hT:∀H,AB2 G H) (H:List Ent) (s:Scr) (h:OkS s) (ga:Option Addr) (gn gc:Nat) (oa:Option Addr) (on oc:Nat) (pa:Option Addr) (pn pc:Nat) (ht:t.size≤1000000) (k:Int):SC Tryz.prog G 218 [.pointer (some ⟨tb,0,none⟩),.int .i64 k] (.blk tb 158 (trmC s ga gn gc oa on oc pa pn pc t)::H) fun v H'=>v=resV []∧H'= .blk tb 158 (trmC s ga gn gc oa on oc pa pn pc (t++tellA s k))::H:=by
 have hz:=h.g.size
 have hr:=h.row
 have hc:=h.col
 have htp:=h.top
 have cI:=fun (H:List Ent) (cs:List Value) (b:Bool) (hb:onA s 2=b)=>AJ1 G H tb 2 (by decide) cs s.modes h.modes b hb
 obtain⟨rn,hrn⟩:∃r,rowN s=r:=⟨_,rfl⟩
 have hrb: -1000≤rn∧rn≤1000:=by rw[←hrn];unfold rowN;split<;>omega
 have cR:=fun H=>A88 G H (hT H) rn (by omega)
 have cC:=fun H=>A88 G H (hT H) (s.col+1) (by omega)
 unfold tellA
 rw[hrn]
 have z1:=AX1 rn (by omega)
 have z2:=AX1 (s.col+1) (by omega)
 generalize decB rn=r1 at *
 generalize decB (s.col+1)=r2 at *
 obtain⟨v1,hv1⟩:∃v,(⟨#[27,91]⟩:ByteArray)++r1=v:=⟨_,rfl⟩
 obtain⟨v2,hv2⟩:∃v,v1++(⟨#[59]⟩:ByteArray)=v:=⟨_,rfl⟩
 obtain⟨v3,hv3⟩:∃v,v2++r2=v:=⟨_,rfl⟩
 obtain⟨v4,hv4⟩:∃v,v3++(⟨#[82]⟩:ByteArray)=v:=⟨_,rfl⟩
 obtain⟨v5,hv5⟩:∃v,t++v4=v:=⟨_,rfl⟩
 obtain⟨v6,hv6⟩:∃v,t++(⟨#[27,91,48,110]⟩:ByteArray)=v:=⟨_,rfl⟩
 have q0:(⟨#[27,91]⟩:ByteArray).size=2:=rfl
 have q1:(⟨#[59]⟩:ByteArray).size=1:=rfl
 have q2:(⟨#[82]⟩:ByteArray).size=1:=rfl
 have q3:(⟨#[27,91,48,110]⟩:ByteArray).size=4:=rfl
 have y1:v1.size=2+r1.size:=by rw[←hv1,ByteArray.size_append,q0]
 have y2:v2.size=v1.size+1:=by rw[←hv2,ByteArray.size_append,q1]
 have y3:v3.size=v2.size+r2.size:=by rw[←hv3,ByteArray.size_append]
 have y4:v4.size=v3.size+1:=by rw[←hv4,ByteArray.size_append,q2]
 rw[hv1,hv2,hv3,hv4]
 by_cases g5:k=5
 ·rw[if_pos g5,hv6];subst g5
  cases hb:onA s 2
  all_goals
   unfold trmC
   refine I7 Tryz.func218 O O O O O ?_
   repeat' (first|(apply E8;first|(apply A8;refine A9 ?_)|(apply C8;refine D7 O O ?_)|(apply E5;refine F7 O O O ?_;first|(refine AD4 hv6 (by omega) ?_)|(first|(apply K9;refine L6 ⟨by omega,by omega⟩ ?_)|(apply U8;refine V4 ⟨by omega,by omega⟩ ?_)|refine F9 O ?_))|(apply F5;refine F8 O O ?_;refine F4 O ?_)|(apply D5;refine D9 O O ?_)|(apply G6;refine G7 (D8 O O) O ?_)|(apply I9;refine J7 (F6 O O) O ?_)|(apply H5;refine H6 O O O (cI _ _ _ hb inferInstance O) O O ?_)|(apply H8;refine M9 O O O O O O O ?_))|(apply D6)|(apply G8)|(apply F3)|(apply A7)|(refine G5 O ?_;first|(apply I1)|(apply H7))|(apply C9)|(apply H9))
   all_goals exact I8 _ (by (exact .inl O)) O (fun _ hw=>hw) ⟨O,O⟩
 rw[if_neg g5]
 by_cases g6:k=6
 ·rw[if_pos g6,hv5];subst g6
  clear hv6
  cases hb:onA s 2
  ·have e:s.row+1=rn:=by rw[←hrn];unfold rowN;rw[hb];rfl
   unfold trmC
   refine I7 Tryz.func218 O O O O O ?_
   repeat' (first|(apply E8;first|(apply A8;refine A9 ?_)|(apply C8;refine D7 O O ?_)|(apply E5;refine F7 O O O ?_;first|(apply K9;refine L6 ⟨by omega,by omega⟩ ?_)|refine F9 O ?_)|(apply F5;refine F8 O O ?_;refine F4 O ?_)|(apply D5;refine D9 O O ?_)|(apply G6;refine G7 (D8 O O) O ?_)|(apply I9;refine J7 (F6 O O) O ?_)|(apply H5;refine H6 O O O (cI _ _ _ hb inferInstance O) O O ?_))|(apply D6)|(apply G8)|(apply F3)|((fail_if_success (refine J5 (id:=7) ?_));apply A7)|(refine G5 O ?_;first|(apply I1)|(apply H7))|(apply C9))
   rw[e]
   refine AE0 20 _ H (fun _ hw=>hw) O ?_
   repeat' (first|(apply E8;first|(apply A8;refine A9 ?_)|(apply H5;first|refine H6 O O O (cR _) O O ?_ |refine H6 O O O (cC _) O O ?_)|(apply H8;refine M9 O O O O O O O ?_))|(apply Q0;refine N8 (k:=0) J3 ?_)|(apply AN7;refine AK7 (k:=0) J3 ?_)|(apply U3;first|(refine L8 O ?_)|(refine N9 (by decide+kernel) ?_))|(apply AL2;first|(refine AH9 O ?_)|(refine AC5 O O O O (by kernel_rfl) (by decide+kernel) (by decide+kernel) (by decide+kernel) ?_;first|(apply O1;refine G9 (P9 O O) ?_)|(apply AG6;refine AG7 O O ?_;first|(refine AD4 hv1 (by omega) ?_)|(refine AD4 hv2 (by omega) ?_)|(refine AD4 hv3 (by omega) ?_)|(refine AD4 hv4 (by omega) ?_)|(refine AD4 hv5 (by omega) ?_)|(apply K9;refine L6 ⟨by omega,by omega⟩ ?_))|(apply R9;refine R6 O ?_;refine F4 O ?_)|(apply M3;refine G9 (D8 O O) ?_)|(apply R5;refine G9 (F6 O O) ?_))|(refine AC9 O ?_)|(refine AE2 (by kernel_rfl) ?_))|(apply AL3;first|(refine AE1 O)|(refine AH6 (by decide+kernel) ?_)|(refine AH3 O O ?_ ?_)|(refine AK8 O O ?_ ?_))|(apply H9))
   all_goals exact I8 _ (by (exact .inl O)) O (fun _ hw=>hw) ⟨O,O⟩
  ·have e:s.row+1-s.top=rn:=by rw[←hrn];unfold rowN;rw[hb];rfl
   unfold trmC
   refine I7 Tryz.func218 O O O O O ?_
   repeat' (first|(apply E8;first|(apply A8;refine A9 ?_)|(apply C8;refine D7 O O ?_)|(apply E5;refine F7 O O O ?_;first|(apply K9;refine L6 ⟨by omega,by omega⟩ ?_)|(apply U8;refine V4 ⟨by omega,by omega⟩ ?_)|refine F9 O ?_)|(apply F5;refine F8 O O ?_;refine F4 O ?_)|(apply D5;refine D9 O O ?_)|(apply G6;refine G7 (D8 O O) O ?_)|(apply I9;refine J7 (F6 O O) O ?_)|(apply H5;refine H6 O O O (cI _ _ _ hb inferInstance O) O O ?_))|(apply D6)|(apply F3)|((fail_if_success (refine J5 (id:=7) ?_));apply A7)|(refine G5 O ?_;first|(apply I1)|(apply H7))|(apply C9))
   rw[e]
   refine AE0 20 _ H (fun _ hw=>hw) O ?_
   repeat' (first|(apply E8;first|(apply A8;refine A9 ?_)|(apply H5;first|refine H6 O O O (cR _) O O ?_ |refine H6 O O O (cC _) O O ?_)|(apply H8;refine M9 O O O O O O O ?_))|(apply Q0;refine N8 (k:=0) J3 ?_)|(apply AN7;refine AK7 (k:=0) J3 ?_)|(apply U3;first|(refine L8 O ?_)|(refine N9 (by decide+kernel) ?_))|(apply AL2;first|(refine AH9 O ?_)|(refine AC5 O O O O (by kernel_rfl) (by decide+kernel) (by decide+kernel) (by decide+kernel) ?_;first|(apply O1;refine G9 (P9 O O) ?_)|(apply AG6;refine AG7 O O ?_;first|(refine AD4 hv1 (by omega) ?_)|(refine AD4 hv2 (by omega) ?_)|(refine AD4 hv3 (by omega) ?_)|(refine AD4 hv4 (by omega) ?_)|(refine AD4 hv5 (by omega) ?_)|(apply K9;refine L6 ⟨by omega,by omega⟩ ?_))|(apply R9;refine R6 O ?_;refine F4 O ?_)|(apply M3;refine G9 (D8 O O) ?_)|(apply R5;refine G9 (F6 O O) ?_))|(refine AC9 O ?_)|(refine AE2 (by kernel_rfl) ?_))|(apply AL3;first|(refine AE1 O)|(refine AH6 (by decide+kernel) ?_)|(refine AH3 O O ?_ ?_)|(refine AK8 O O ?_ ?_))|(apply H9))
   all_goals exact I8 _ (by (exact .inl O)) O (fun _ hw=>hw) ⟨O,O⟩
 rw[if_neg g6,AG0]
 clear hv1 hv2 hv3 hv4 hv5 hv6
 cases hb:onA s 2
 all_goals
  unfold trmC
  refine I7 Tryz.func218 O O O O O ?_
  repeat' (first|(apply E8;first|(apply A8;refine A9 ?_)|(apply C8;refine D7 O O ?_)|(apply E5;refine F7 O O O ?_;first|(apply K9;refine L6 ⟨by omega,by omega⟩ ?_)|(apply U8;refine V4 ⟨by omega,by omega⟩ ?_)|refine F9 O ?_)|(apply F5;refine F8 O O ?_;refine F4 O ?_)|(apply D5;refine D9 O O ?_)|(apply G6;refine G7 (D8 O O) O ?_)|(apply I9;refine J7 (F6 O O) O ?_)|(apply H5;refine H6 O O O (cI _ _ _ hb inferInstance O) O O ?_))|(apply D6)|(apply G8)|(apply F3)|(apply A7)|(refine G5 O ?_;first|(apply I1)|(apply H7)|(apply E9<;>intro hq<;>(try (exfalso;omega))))|(apply C9)|(apply H9))
  all_goals exact I8 _ (by (exact .inl O)) O (fun _ hw=>hw) ⟨O,O⟩
end
section
variable {G:Ctx} {tb:Nat} {t:ByteArray} {s:Scr} {K H:List Ent}
theorem TmQ.set (hq:TmQ G tb t s K H) (h:OkS s) (m:Int) (hm:0≤m∧m≤2047) (on':Bool):SC Tryz.prog G 163 [.pointer (some ⟨tb,0,none⟩),.int .i64 m,.bool on'] H fun v H'=>v=resV []∧TmQ G tb t (setA s m on') K H':=
 hq.blk rfl rfl rfl fun ga gn gc oa on oc pa pn pc H=>As4 G H s m on' tb ga gn gc oa on oc pa pn pc t h.modes hm
end
theorem BQ5 (c:Int) (d:Int):(c==d)=decide (c=d):=by
 by_cases h:c=d
 ·rw[h,decide_eq_true rfl,beq_self_eq_true]
 ·rw[decide_eq_false h,beq_eq_false_iff_ne.2 h]
theorem Ao0 {α:Type} {f:α→Int→α} {L:List Int} {k:Nat} (s:α) (h:k<L.length):(L.take (k+1)).foldl f s=f ((L.take k).foldl f s) (L.getD k 0):=by
 rw[List.take_add_one,List.foldl_append,List.getElem?_eq_getElem h,List.getD_eq_getElem?_getD,List.getElem?_eq_getElem h]
 rfl
section
attribute [local irreducible] SW SL SQ AtQ SV SC BB LD PK Yields SO SOT SOA SY SP SPT SPA
variable (G:Ctx) (tb:Nat) (t:ByteArray)
theorem B01 (H:List Ent) (s:Scr) (h:OkS s) (ga:Option Addr) (gn gc:Nat) (oa:Option Addr) (on oc:Nat) (pa:Option Addr) (pn pc:Nat) (kk m n k:Int) (i x:ByteArray) (aa:Option Addr) (an ac:Nat):SC Tryz.prog G 170 [.pointer (some ⟨tb,0,none⟩),acV kk 103 m i aa an ac x,.int .i64 n,.int .i64 k] (.blk tb 158 (trmC s ga gn gc oa on oc pa pn pc t)::H) fun v H'=>v=resV []∧H'= .blk tb 158 (trmC (if k=0 then {s with st:=AJ9 s.st s.col.toNat false} else if k=3 then {s with st:=fun _=>0} else s) ga gn gc oa on oc pa pn pc t)::H:=by
 have hz:=h.g.size
 have hc:=h.col
 have cS:=fun H=>Ai4 G H s.st h.st s.col.toNat false (by omega)
 rw[Int.toNat_of_nonneg hc.1] at cS
 generalize AJ9 s.st s.col.toNat false=z at *
 unfold AA1 at cS
 unfold acV
 by_cases g1:k=0
 ·rw[if_pos g1];subst g1
  unfold trmC
  refine Y6 Tryz.func170 O O O O O ?_
  repeat' (first|(apply E8;first|(apply A8;refine A9 ?_)|(apply C8;refine D7 O O ?_)|(apply E5;refine F7 O O O ?_;refine F9 O ?_)|(apply F5;refine F8 O O ?_;refine F4 O ?_)|(apply D5;refine D9 O O ?_)|(apply G6;refine G7 (D8 O O) O ?_)|(apply K6;refine L9 O O O O O O (fun _=>?_)))|(apply D6)|(apply F3)|((fail_if_success (refine J5 (id:=5) ?_));apply A7)|(refine G5 O ?_;apply I1)|(apply C9))
  refine AE0 18 _ H J3 O ?_
  repeat' (first|(apply E8;first|(apply A8;refine A9 ?_)|(apply H5;refine H6 O O O (cS _) O O ?_)|(apply H8;refine AH2 O O O O O O O O O ?_))|(apply Q0;refine N8 (k:=0) J3 ?_)|(apply AN7;refine AK7 (k:=0) J3 ?_)|(apply U3;first|(refine L8 O ?_)|(refine N9 (by decide+kernel) ?_))|(apply AL2;first|(refine AH9 O ?_)|(refine AC5 O O O O (by kernel_rfl) (by decide+kernel) (by decide+kernel) (by decide+kernel) ?_;first|(apply O1;refine G9 (P9 O O) ?_)|(apply R9;refine R6 O ?_;first|refine F4 O ?_ |refine O9 O O ?_)|(apply M3;refine G9 (D8 O O) ?_)|(apply AG3;refine G9 (M0 O O O) ?_)|(apply R5;refine G9 (F6 O O) ?_))|(refine AR7 O O O O (by kernel_rfl) (by decide+kernel) (by decide+kernel) O J3 ?_;apply AG3;refine G9 (M0 O O O) ?_)|(refine AC9 O ?_)|(refine AE2 (by kernel_rfl) ?_))|(apply AL3;first|(refine AE1 O)|(refine AH6 (by decide+kernel) ?_)|(refine AH3 O O ?_ ?_)|(refine AK8 O O ?_ ?_))|(apply H9))
  all_goals exact I8 (.blk tb 158 _::H) (by (exact .inl O)) O J3 ⟨O,O⟩
 rw[if_neg g1]
 by_cases g2:k=3
 ·rw[if_pos g2];subst g2
  unfold trmC
  refine Y6 Tryz.func170 O O O O O ?_
  repeat' (first|(apply E8;first|(apply A8;refine A9 ?_)|(apply C8;refine D7 O O ?_)|(apply E5;refine F7 O O O ?_;refine F9 O ?_)|(apply F5;refine F8 O O ?_;refine F4 O ?_)|(apply D5;refine D9 O O ?_)|(apply G6;refine G7 (D8 O O) O ?_)|(apply U0;refine U6 (Q9 O O O) O ?_)|(apply I9;refine J7 (F6 O O) O ?_)|(apply H8;refine AH2 O O O O O O O O O ?_)|(apply K6;refine L9 O O O O O O (fun _=>?_)))|(apply D6)|(apply F3)|(apply A7)|(refine G5 O ?_;first|(apply I1)|(apply H7))|(apply C9)|(apply H9))
  all_goals exact I8 (.blk tb 158 _::H) (by (exact .inl O)) O J3 ⟨O,O⟩
 rw[if_neg g2]
 unfold trmC
 refine Y6 Tryz.func170 O O O O O ?_
 repeat' (first|(apply E8;first|(apply A8;refine A9 ?_)|(apply C8;refine D7 O O ?_)|(apply E5;refine F7 O O O ?_;refine F9 O ?_)|(apply F5;refine F8 O O ?_;refine F4 O ?_)|(apply D5;refine D9 O O ?_)|(apply G6;refine G7 (D8 O O) O ?_)|(apply K6;refine L9 O O O O O O (fun _=>?_)))|(apply D6)|(apply G8)|(apply F3)|(apply A7)|(refine G5 O ?_;first|(apply I1)|(apply E9<;>intro hq<;>(try (exfalso;omega))))|(apply C9)|(apply H9))
 all_goals exact I8 (.blk tb 158 _::H) (by (exact .inl O)) O J3 ⟨O,O⟩
theorem Bz2 (K H:List Ent) (s:Scr) (h:OkS s) (hq:TmQ G tb t s K H) (L:List Int) (kk m n k c:Int) (i x:ByteArray) (aa:Option Addr) (ac:Nat) [h1:RdC G K aa (ints L)] (hll:L.length≤1000) (hc:c=104∨c=108):SC Tryz.prog G 170 [.pointer (some ⟨tb,0,none⟩),acV kk c m i aa L.length ac x,.int .i64 n,.int .i64 k] H fun v H'=>v=resV []∧TmQ G tb t (L.foldl (modeA (decide (c=104))) s) K H':=by
 have hlx:(ints L).length=L.length * 1:=by simp [ints]
 have hfo:∀j,OkS ((L.take j).foldl (modeA (decide (c=104))) s):=fun j=>AW5 (fun s m h=>h.mode _ m) _ _ h
 have hst:∀j,j<L.length→(L.take (j+1)).foldl (modeA (decide (c=104))) s=modeA (decide (c=104)) ((L.take j).foldl (modeA (decide (c=104))) s) (L.getD j 0):=fun j hj=>Ao0 s hj
 have hfin:(L.take L.length).foldl (modeA (decide (c=104))) s=L.foldl (modeA (decide (c=104))) s:=by rw[List.take_length]
 rw[←hfin]
 clear hfin
 have hb0:(c==104)=decide (c=104):=BQ5 c 104
 generalize hbb:decide (c=104)=bb at *
 have h00:(L.take 0).foldl (modeA bb) s=s:=rfl
 unfold acV
 refine Y6 Tryz.func170 O O O O O ?_
 rcases hc with rfl|rfl
 all_goals
  repeat' (first|(apply E8;first|(apply A8;refine A9 ?_)|(apply E5;refine F7 O O O ?_;refine F9 O ?_)|(apply F5;refine F8 O O ?_;refine F4 O ?_)|(apply D5;refine D9 O O ?_)|(apply G6;refine G7 (D8 O O) O ?_)|(apply K6;refine L9 O O O O O O (fun _=>?_)))|(apply D6)|(apply G8)|(apply F3)|((fail_if_success (refine J5 (id:=10) ?_));apply A7)|(refine G5 O ?_;first|(apply I1)|(apply H7))|(apply C9))
  rename_i b
  obtain⟨H2,hp2,hq2⟩:=hq.push (.blk b 160 [.int .i64 kk,.int .i64 _,.int .i64 m,.string i,.slice aa L.length ac,.string x])
  refine Z5 H2 (fun _ hw=>hw.perm hp2) ?_
  haveI:=hq2.hasB AB1
  repeat' (first|(apply E8;first|(apply A8;refine A9 ?_)|(apply C8;refine D7 O O ?_)|(apply F5;refine F8 O O ?_;refine F4 O ?_)|(apply G6;refine G7 (D8 O O) O ?_)|(apply K5;refine s_call (S9 O O) O ?_))|(apply F3)|((fail_if_success (refine J5 (id:=11) ?_));apply A7)|(apply C9))
  refine R7 (α:=Nat×List Ent) (fun g=>[(0,.pointer (some ⟨tb,0,none⟩)),(5,.pointer (some ⟨b,0,none⟩)),(49,.slice aa L.length ac),(50,.int .i64 L.length),(51,.int .i64 g.1)]) (fun g=>g.2)
   (fun g=>g.1≤L.length∧TmQ G tb t ((L.take g.1).foldl (modeA bb) s) (.blk b 160 [.int .i64 kk,.int .i64 _,.int .i64 m,.string i,.slice aa L.length ac,.string x]::K) g.2) (fun g=>L.length-g.1) (0,_) ⟨Nat.zero_le _,hq2⟩ Q7 (fun _ hw=>hw) ?_
  clear hp2 hq2 this
  rintro ⟨j,Hj⟩ ⟨hj,hqj⟩
  dsimp only at hj hqj ⊢
  by_cases hlt:(j:Int)<L.length
  ·have hjo:=hfo j
   have hjs:=hst j (by omega)
   have hx:(ints L)[(j:Int).toNat * 1]? =some (.int .i64 (L.getD j 0)):=by
    rw[Int.toNat_natCast,Nat.mul_one,List.getD_eq_getElem?_getD,List.getElem?_eq_getElem (show j<L.length by omega)]
    simp [ints,show j<L.length by omega]
   haveI:=hqj.hasB AB1
   haveI:RdC G Hj aa (ints L):=⟨fun w hw=>h1.here w (hqj.rd w hw).drop⟩
   clear hfo hst h00
   generalize (L.take j).foldl (modeA bb) s=sj at *
   generalize L.getD j 0=z at *
   rw[show modeA bb sj z=(if z=4 then setA sj 1 bb else if z=20 then setA sj 128 bb else sj) from rfl] at hjs
   by_cases g1:z=4
   ·rw[if_pos g1] at hjs;subst g1
    repeat' (first|(apply E8;first|(apply A8;refine A9 ?_)|(apply C8;refine D7 O O ?_)|(apply E5;refine F7 O O O ?_;first|(apply K9;refine L6 ⟨by omega,by omega⟩ ?_)|refine F9 O ?_)|(apply F5;first|(refine F8 O O ?_;refine F4 O ?_)|(refine F8 O O ?_;refine X8 hx ?_))|(apply D5;refine D9 O O ?_)|(apply G6;refine G7 (D8 O O) O ?_)|(apply M4;refine M8 (K7 O O O hlx (by omega) (by omega)) O ?_)|(apply H5;refine c_call O O O (hqj.set hjo 1 (by decide) _) O O ?_;rintro _ _ ⟨rfl,hq3⟩))|(apply D6)|(apply G8)|(apply F3)|(apply A7)|(refine G5 O ?_;first|(apply I1)|(apply E9<;>intro hq<;>(try (exfalso;omega))))|(apply C9)|(apply H9))
    rw[hb0] at hq3
    exact J6 (j+1,_) ⟨⟨by dsimp only;omega,by dsimp only;rw[hjs];exact hq3⟩,by dsimp only;omega⟩ Q7 (fun _ hw=>hw)
   rw[if_neg g1] at hjs
   by_cases g2:z=20
   ·rw[if_pos g2] at hjs;subst g2
    repeat' (first|(apply E8;first|(apply A8;refine A9 ?_)|(apply C8;refine D7 O O ?_)|(apply E5;refine F7 O O O ?_;first|(apply K9;refine L6 ⟨by omega,by omega⟩ ?_)|refine F9 O ?_)|(apply F5;first|(refine F8 O O ?_;refine F4 O ?_)|(refine F8 O O ?_;refine X8 hx ?_))|(apply D5;refine D9 O O ?_)|(apply G6;refine G7 (D8 O O) O ?_)|(apply M4;refine M8 (K7 O O O hlx (by omega) (by omega)) O ?_)|(apply H5;refine c_call O O O (hqj.set hjo 128 (by decide) _) O O ?_;rintro _ _ ⟨rfl,hq3⟩))|(apply D6)|(apply G8)|(apply F3)|(apply A7)|(refine G5 O ?_;first|(apply I1)|(apply H7)|(apply E9<;>intro hq<;>(try (exfalso;omega))))|(apply C9)|(apply H9))
    rw[hb0] at hq3
    exact J6 (j+1,_) ⟨⟨by dsimp only;omega,by dsimp only;rw[hjs];exact hq3⟩,by dsimp only;omega⟩ Q7 (fun _ hw=>hw)
   rw[if_neg g2] at hjs
   repeat' (first|(apply E8;first|(apply A8;refine A9 ?_)|(apply C8;refine D7 O O ?_)|(apply E5;refine F7 O O O ?_;first|(apply K9;refine L6 ⟨by omega,by omega⟩ ?_)|refine F9 O ?_)|(apply F5;refine F8 O O ?_;refine X8 hx ?_)|(apply D5;refine D9 O O ?_)|(apply M4;refine M8 (K7 O O O hlx (by omega) (by omega)) O ?_))|(apply D6)|(apply G8)|(apply F3)|(apply A7)|(refine G5 O ?_;apply E9<;>intro hq<;>(try (exfalso;omega)))|(apply C9)|(apply H9))
   exact J6 (j+1,_) ⟨⟨by dsimp only;omega,by dsimp only;rw[hjs];exact hqj⟩,by dsimp only;omega⟩ Q7 (fun _ hw=>hw)
  ·obtain rfl:j=L.length:=by omega
   repeat' (first|(apply E8;first|(apply A8;refine A9 ?_)|(apply E5;refine F7 O O O ?_;refine F9 O ?_))|(apply D6)|(apply O7)|(apply A7)|(refine G5 O ?_;apply E9<;>intro hq<;>(try (exfalso;omega)))|(apply C9)|(apply K3)|(apply H9)|(apply K4))
   exact I8 _ (by (exact .inl O)) O (fun _ hw=>hw) ⟨O,hqj.cut⟩
theorem Bs2 (K H:List Ent) (s:Scr) (h:OkS s) (hq:TmQ G tb t s K H) (L:List Int) (kk m n k:Int) (i x:ByteArray) (aa:Option Addr) (ac:Nat) [h1:RdC G K aa (ints L)] (hll:L.length≤1000):SC Tryz.prog G 170 [.pointer (some ⟨tb,0,none⟩),acV kk 109 m i aa L.length ac x,.int .i64 n,.int .i64 k] H fun v H'=>v=resV []∧TmQ G tb t (sgrA s L) K H':=by
 have cS:=fun (H:List Ent) [RdC G H aa (ints L)]=>BJ8 G H s.pf s.pr s.pb L aa L.length ac rfl rfl (by unfold maxLen;omega)
 unfold sgrV at cS
 rw[if_neg (show ¬penB s.pf s.pr s.pb=false by rw[h.pen];decide)] at cS
 have hcase:(∃e:Int,e≠0∧sgrA s L=s∧∀(H:List Ent) [RdC G H aa (ints L)],SV Tryz.prog G 217 [penV s.pf s.pr s.pb,.slice aa L.length ac] H (.tuple #[penV s.pf s.pr s.pb,.int .i64 e]))∨(∃f r b,sgrA s L=penA s (f,r,b)∧∀(H:List Ent) [RdC G H aa (ints L)],SV Tryz.prog G 217 [penV s.pf s.pr s.pb,.slice aa L.length ac] H (.tuple #[penV f r b,.int .i64 0])):=by
  unfold sgrA
  by_cases g1:L.length=0∨L.any AD9=true
  ·rw[if_pos g1] at cS
   exact .inl ⟨1,by decide,if_pos (g1.elim .inl fun h=> .inr (.inl h)),cS⟩
  rw[if_neg g1] at cS
  by_cases g2:32<L.length
  ·rw[if_pos g2] at cS
   exact .inl ⟨2,by decide,if_pos (.inr (.inr g2)),cS⟩
  rw[if_neg g2] at cS
  exact .inr ⟨_,_,_,if_neg (fun h=>h.elim (fun h=>g1 (.inl h)) fun h=>h.elim (fun h=>g1 (.inr h)) g2),cS⟩
 clear cS
 generalize sgrA s L=sx at *
 obtain⟨gb,gn,gc,ob,on,oc,P,pa,pn,pc,X,E,rfl,hi⟩:=hq
 generalize L.length=ln at *
 unfold acV
 rcases hcase with ⟨e,he,rfl,cS⟩|⟨f,r,b,rfl,cS⟩
 ·have hfin:∀H',H'= .blk tb 158 (trmC sx (some ⟨gb,0,none⟩) gn gc (some ⟨ob,0,none⟩) on oc pa pn pc t):: .own 97 4 (some ⟨gb,0,none⟩) gn gc (qds sx.C):: .own 97 4 (some ⟨ob,0,none⟩) on oc (qds sx.D)::P::(E++K)→TmQ G tb t sx K H':=fun H' e=>⟨gb,gn,gc,ob,on,oc,P,pa,pn,pc,X,E,e,hi⟩
  clear hi
  unfold trmC at *
  refine Y6 Tryz.func170 O O O O O ?_
  repeat' (first|(apply E8;first|(apply A8;refine A9 ?_)|(apply C8;refine D7 O O ?_)|(apply E5;refine F7 O O O ?_;refine F9 O ?_)|(apply F5;refine F8 O O ?_;refine F4 O ?_)|(apply D5;refine D9 O O ?_)|(apply G6;refine G7 (D8 O O) O ?_)|(apply H5;refine H6 O O O (cS _) O O ?_)|(apply H8;refine Q8 O O O O O O O O ?_)|(apply K6;refine L9 O O O O O O (fun _=>?_))|(apply O6;refine Q4 O O O O (fun _=>?_)))|(apply Q0;refine N8 (k:=0) J3 ?_)|(apply U3;first|(refine L8 O ?_)|(refine O4 O O O O (by kernel_rfl) (by decide+kernel) (by decide+kernel) ?_;first|(apply O1;refine G9 (P9 O O) ?_)|(apply R9;refine R6 O ?_;first|refine F4 O ?_ |refine O9 O O ?_)|(apply AA4;refine G9 (o6 O O) ?_)|(apply M3;refine G9 (D8 O O) ?_)|(apply AG3;refine G9 (M0 O O O) ?_)|(apply R5;refine G9 (F6 O O) ?_))|(refine O5 O ?_)|(refine N9 (by decide+kernel) ?_)|(refine Q6 (by kernel_rfl) ?_))|(apply V3;first|(refine Q5 O)|(refine U1 (by decide+kernel) ?_)|(refine Q3 O ?_ ?_))|(apply D6)|(apply G8)|(apply F3)|(apply A7)|(refine G5 O ?_;first|(apply I1)|(apply H7)|(apply E9<;>intro hq<;>(try (exfalso;omega))))|(apply C9)|(apply H9)|(refine J5 (id:=20) ?_;refine Z6 _ (fun _ hw=>hw) ?_))
  all_goals exact I8 (.blk tb 158 _:: .own 97 4 (some ⟨gb,0,none⟩) gn gc (qds sx.C):: .own 97 4 (some ⟨ob,0,none⟩) on oc (qds sx.D)::P::(E++K)) (by (exact .inl O)) O J3 ⟨O,hfin _ O⟩
 ·have hi2:TmI G (penA s (f,r,b)) gn gc on oc P pa pn pc X E:=hi.same rfl rfl rfl
  have hfin:∀H',H'= .blk tb 158 (trmC (penA s (f,r,b)) (some ⟨gb,0,none⟩) gn gc (some ⟨ob,0,none⟩) on oc pa pn pc t):: .own 97 4 (some ⟨gb,0,none⟩) gn gc (qds s.C):: .own 97 4 (some ⟨ob,0,none⟩) on oc (qds s.D)::P::(E++K)→TmQ G tb t (penA s (f,r,b)) K H':=fun H' e=>⟨gb,gn,gc,ob,on,oc,P,pa,pn,pc,X,E,e,hi2⟩
  clear hi hi2
  unfold trmC at *
  refine Y6 Tryz.func170 O O O O O ?_
  repeat' (first|(apply E8;first|(apply A8;refine A9 ?_)|(apply C8;refine D7 O O ?_)|(apply E5;refine F7 O O O ?_;refine F9 O ?_)|(apply F5;refine F8 O O ?_;first|refine F4 O ?_ |refine M5 O ?_)|(apply D5;refine D9 O O ?_)|(apply G6;refine G7 (D8 O O) O ?_)|(apply I9;refine J7 (F6 O O) O ?_)|(apply H5;refine H6 O O O (cS _) O O ?_)|(apply H8;first|refine Q8 O O O O O O O O ?_ |(refine AH2 O O O O O O O O O ?_))|(apply K6;refine L9 O O O O O O (fun _=>?_))|(apply O6;refine Q4 O O O O (fun _=>?_)))|(apply Q0;refine N8 (k:=0) J3 ?_)|(apply U3;first|(refine L8 O ?_)|(refine O4 O O O O (by kernel_rfl) (by decide+kernel) (by decide+kernel) ?_;first|(apply O1;refine G9 (P9 O O) ?_)|(apply R9;refine R6 O ?_;first|refine F4 O ?_ |refine O9 O O ?_)|(apply AA4;refine G9 (o6 O O) ?_)|(apply M3;refine G9 (D8 O O) ?_)|(apply AG3;refine G9 (M0 O O O) ?_)|(apply R5;refine G9 (F6 O O) ?_))|(refine O5 O ?_)|(refine N9 (by decide+kernel) ?_)|(refine Q6 (by kernel_rfl) ?_))|(apply V3;first|(refine Q5 O)|(refine U1 (by decide+kernel) ?_)|(refine Q3 O ?_ ?_))|(apply D6)|(apply F3)|(apply A7)|(refine G5 O ?_;first|(apply I1)|(apply H7))|(apply C9)|(apply H9)|(refine J5 (id:=20) ?_;refine Z6 _ (fun _ hw=>hw) ?_))
  all_goals exact I8 (.blk tb 158 _:: .own 97 4 (some ⟨gb,0,none⟩) gn gc (qds s.C):: .own 97 4 (some ⟨ob,0,none⟩) on oc (qds s.D)::P::(E++K)) (by (exact .inl O)) O J3 ⟨O,hfin _ O⟩
theorem B18 (K H:List Ent) (s:Scr) (h:OkS s) (hq:TmQ G tb t s K H) (L:List Int) (hL:∀x∈L,-1≤x∧x≤16383) (kk m n k:Int) (hn:1≤n∧n≤16383) (i x:ByteArray) (aa:Option Addr) (ac:Nat) [h1:RdC G K aa (ints L)]:SC Tryz.prog G 170 [.pointer (some ⟨tb,0,none⟩),acV kk 114 m i aa L.length ac x,.int .i64 n,.int .i64 k] H fun v H'=>v=resV []∧TmQ G tb t (if n<edgeA s (getA L 1 0) then moveA {s with top:=n-1,bot:=edgeA s (getA L 1 0)} 0 0 else s) K H':=by
 have hz:=h.g.size
 have cG:=fun (H:List Ent) [RdC G H aa (ints L)]=>AY9 G H L aa ac 1 0
 have hg:=BF8 (L:=L) (i:=1) (d:=0) hL (by decide)
 generalize getA L 1 0=b at *
 have hx:=BH3 s b
 have heb:(b=0∨b>s.h)∧edgeA s b=s.h∨(¬b=0∧¬b>s.h)∧edgeA s b=b:=by
  unfold edgeA
  by_cases g:b=0∨b>s.h
  ·exact .inl ⟨g,if_pos g⟩
  ·exact .inr ⟨by omega,if_neg g⟩
 generalize edgeA s b=e at *
 obtain⟨gb,gn,gc,ob,on,oc,P,pa,pn,pc,X,E,rfl,hi⟩:=hq
 generalize L.length=ln at *
 unfold acV
 by_cases hlt:n<e
 ·rw[if_pos hlt]
  have h2:OkS {s with top:=n-1,bot:=e}:=h.region (by omega)
  have cM:=fun H=>Ax0 G H {s with top:=n-1,bot:=e} tb (some ⟨gb,0,none⟩) gn gc (some ⟨ob,0,none⟩) on oc pa pn pc t h2 0 0 (by decide)
  have e3:(moveA {s with top:=n-1,bot:=e} 0 0).C=s.C∧(moveA {s with top:=n-1,bot:=e} 0 0).D=s.D∧(moveA {s with top:=n-1,bot:=e} 0 0).past=s.past:=by
   unfold moveA rowAt;split<;>exact⟨O,O,O⟩
  generalize moveA {s with top:=n-1,bot:=e} 0 0=s3 at *
  have hfin:∀H',H'= .blk tb 158 (trmC s3 (some ⟨gb,0,none⟩) gn gc (some ⟨ob,0,none⟩) on oc pa pn pc t):: .own 97 4 (some ⟨gb,0,none⟩) gn gc (qds s.C):: .own 97 4 (some ⟨ob,0,none⟩) on oc (qds s.D)::P::(E++K)→TmQ G tb t s3 K H':=fun H' e=>⟨gb,gn,gc,ob,on,oc,P,pa,pn,pc,X,E,by rw[e3.1,e3.2.1];exact e,hi.same (by rw[e3.1]) (by rw[e3.2.1]) e3.2.2⟩
  clear hi h2 e3
  generalize trmC s3 (some ⟨gb,0,none⟩) gn gc (some ⟨ob,0,none⟩) on oc pa pn pc t=cs3 at *
  unfold trmC at *
  dsimp only at cM
  rcases heb with ⟨g,rfl⟩|⟨g,rfl⟩
  all_goals
   refine Y6 Tryz.func170 O O O O O ?_
   repeat' (first|(apply E8;first|(apply A8;refine A9 ?_)|(apply C8;refine D7 O O ?_)|(apply E5;refine F7 O O O ?_;first|(apply U8;refine V4 ⟨by omega,by omega⟩ ?_)|refine F9 O ?_)|(apply F5;refine F8 O O ?_;refine F4 O ?_)|(apply D5;refine D9 O O ?_)|(apply I6;refine J4 O O ?_;first|(apply P7;refine P6 O ?_)|(apply M6;refine M7 O ?_))|(apply G6;refine G7 (D8 O O) O ?_)|(apply I9;refine J7 (F6 O O) O ?_)|(apply H5;first|refine H6 O O O (cG _) O O ?_ |(refine c_call O O O (o7 PickBlk.here (cM _)) O O ?_;rintro _ _ ⟨rfl,rfl⟩))|(apply H8;refine M9 O O O O O O O ?_)|(apply K6;refine L9 O O O O O O (fun _=>?_))|(apply I5;refine J9 O O O O ?_;first|(apply I1)|(apply d9)|(apply P5<;>intro hq<;>(try (exfalso;omega)))))|(apply D6)|(apply G8)|(apply F3)|(apply A7)|(refine G5 O ?_;first|(apply I1)|(apply H7)|(apply E9<;>intro hq<;>(try (exfalso;omega))))|(apply C9)|(apply H9))
   all_goals exact I8 (.blk tb 158 cs3:: .own 97 4 (some ⟨gb,0,none⟩) gn gc (qds s.C):: .own 97 4 (some ⟨ob,0,none⟩) on oc (qds s.D)::P::(E++K)) (by (exact .inl O)) O J3 ⟨O,hfin _ O⟩
 ·rw[if_neg hlt]
  have hfin:∀H',H'= .blk tb 158 (trmC s (some ⟨gb,0,none⟩) gn gc (some ⟨ob,0,none⟩) on oc pa pn pc t):: .own 97 4 (some ⟨gb,0,none⟩) gn gc (qds s.C):: .own 97 4 (some ⟨ob,0,none⟩) on oc (qds s.D)::P::(E++K)→TmQ G tb t s K H':=fun H' e=>⟨gb,gn,gc,ob,on,oc,P,pa,pn,pc,X,E,e,hi⟩
  clear hi
  unfold trmC at *
  rcases heb with ⟨g,rfl⟩|⟨g,rfl⟩
  all_goals
   refine Y6 Tryz.func170 O O O O O ?_
   repeat' (first|(apply E8;first|(apply A8;refine A9 ?_)|(apply C8;refine D7 O O ?_)|(apply E5;refine F7 O O O ?_;refine F9 O ?_)|(apply F5;refine F8 O O ?_;refine F4 O ?_)|(apply D5;refine D9 O O ?_)|(apply I6;refine J4 O O ?_;first|(apply P7;refine P6 O ?_)|(apply M6;refine M7 O ?_))|(apply G6;refine G7 (D8 O O) O ?_)|(apply I9;refine J7 (F6 O O) O ?_)|(apply H5;refine H6 O O O (cG _) O O ?_)|(apply K6;refine L9 O O O O O O (fun _=>?_))|(apply I5;refine J9 O O O O ?_;first|(apply I1)|(apply d9)|(apply P5<;>intro hq<;>(try (exfalso;omega)))))|(apply D6)|(apply G8)|(apply F3)|(apply A7)|(refine G5 O ?_;first|(apply I1)|(apply H7)|(apply E9<;>intro hq<;>(try (exfalso;omega))))|(apply C9)|(apply H9))
   all_goals exact I8 (.blk tb 158 _:: .own 97 4 (some ⟨gb,0,none⟩) gn gc (qds s.C):: .own 97 4 (some ⟨ob,0,none⟩) on oc (qds s.D)::P::(E++K)) (by (exact .inl O)) O J3 ⟨O,hfin _ O⟩
theorem Bt4 (hT:∀H,AB2 G H) (H:List Ent) (s:Scr) (h:OkS s) (ga:Option Addr) (gn gc:Nat) (oa:Option Addr) (on oc:Nat) (pa:Option Addr) (pn pc:Nat) (ht:t.size≤1000000) (kk m n k:Int) (i x:ByteArray) (aa:Option Addr) (an ac:Nat):SC Tryz.prog G 170 [.pointer (some ⟨tb,0,none⟩),acV kk 110 m i aa an ac x,.int .i64 n,.int .i64 k] (.blk tb 158 (trmC s ga gn gc oa on oc pa pn pc t)::H) fun v H'=>v=resV []∧H'= .blk tb 158 (trmC s ga gn gc oa on oc pa pn pc (t++tellA s k))::H:=by
 have cR:=fun H=>Bb1 G tb t hT H s h ga gn gc oa on oc pa pn pc ht k
 generalize trmC s ga gn gc oa on oc pa pn pc t=cs at *
 generalize trmC s ga gn gc oa on oc pa pn pc (t++tellA s k)=cs2 at *
 unfold acV
 refine Y6 Tryz.func170 O O O O O ?_
 repeat' (first|(apply E8;first|(apply A8;refine A9 ?_)|(apply C8;refine D7 O O ?_)|(apply E5;refine F7 O O O ?_;refine F9 O ?_)|(apply F5;refine F8 O O ?_;refine F4 O ?_)|(apply D5;refine D9 O O ?_)|(apply G6;refine G7 (D8 O O) O ?_)|(apply H5;refine c_call O O O (o7 PickBlk.here (cR _)) O O ?_;rintro _ _ ⟨rfl,rfl⟩)|(apply K6;refine L9 O O O O O O (fun _=>?_)))|(apply D6)|(apply F3)|(apply A7)|(refine G5 O ?_;first|(apply I1)|(apply H7))|(apply C9)|(apply H9))
 all_goals exact I8 (.blk tb 158 cs2::H) (by (exact .inl O)) O J3 ⟨O,O⟩
theorem Bs6 (H:List Ent) (s:Scr) (ga:Option Addr) (gn gc:Nat) (oa:Option Addr) (on oc:Nat) (pa:Option Addr) (pn pc:Nat) (ht:t.size≤1000000) (kk m n k c:Int) (i x:ByteArray) (aa:Option Addr) (an ac:Nat) (hc:c=99∨(c≠103∧c≠104∧c≠108∧c≠109∧c≠114∧c≠110)):SC Tryz.prog G 170 [.pointer (some ⟨tb,0,none⟩),acV kk c m i aa an ac x,.int .i64 n,.int .i64 k] (.blk tb 158 (trmC s ga gn gc oa on oc pa pn pc t)::H) fun v H'=>v=resV []∧H'= .blk tb 158 (trmC s ga gn gc oa on oc pa pn pc (t++(if c=99∧k=0 then ⟨#[27,91,63,54,50,99]⟩ else e0)))::H:=by
 unfold acV
 by_cases g:c=99∧k=0
 ·rw[if_pos g]
  obtain⟨rfl,rfl⟩:=g
  obtain⟨v6,hv6⟩:∃v,t++(⟨#[27,91,63,54,50,99]⟩:ByteArray)=v:=⟨_,rfl⟩
  have q3:(⟨#[27,91,63,54,50,99]⟩:ByteArray).size=6:=rfl
  rw[hv6]
  unfold trmC
  refine Y6 Tryz.func170 O O O O O ?_
  repeat' (first|(apply E8;first|(apply A8;refine A9 ?_)|(apply C8;refine D7 O O ?_)|(apply E5;refine F7 O O O ?_;first|(refine AD4 hv6 (by omega) ?_)|(refine F9 O ?_))|(apply F5;refine F8 O O ?_;refine F4 O ?_)|(apply D5;refine D9 O O ?_)|(apply G6;refine G7 (D8 O O) O ?_)|(apply I9;refine J7 (F6 O O) O ?_)|(apply H8;refine M9 O O O O O O O ?_)|(apply K6;refine L9 O O O O O O (fun _=>?_)))|(apply D6)|(apply F3)|(apply A7)|(refine G5 O ?_;first|(apply I1)|(apply H7))|(apply C9)|(apply H9))
  all_goals exact I8 (.blk tb 158 _::H) (by (exact .inl O)) O J3 ⟨O,O⟩
 rw[if_neg g,AG0]
 by_cases g1:c=99
 ·have g2:¬k=0:=fun e=>g ⟨g1,e⟩
  subst g1
  unfold trmC
  refine Y6 Tryz.func170 O O O O O ?_
  repeat' (first|(apply E8;first|(apply A8;refine A9 ?_)|(apply C8;refine D7 O O ?_)|(apply E5;refine F7 O O O ?_;refine F9 O ?_)|(apply F5;refine F8 O O ?_;refine F4 O ?_)|(apply D5;refine D9 O O ?_)|(apply G6;refine G7 (D8 O O) O ?_)|(apply K6;refine L9 O O O O O O (fun _=>?_)))|(apply D6)|(apply G8)|(apply F3)|(apply A7)|(refine G5 O ?_;first|(apply I1)|(apply H7)|(apply E9<;>intro hq<;>(try (exfalso;omega))))|(apply C9)|(apply H9))
  all_goals exact I8 (.blk tb 158 _::H) (by (exact .inl O)) O J3 ⟨O,O⟩
 ·obtain⟨c1,c2,c3,c4,c5,c6⟩:=hc.resolve_left g1
  unfold trmC
  refine Y6 Tryz.func170 O O O O O ?_
  repeat' (first|(apply E8;first|(apply A8;refine A9 ?_)|(apply E5;refine F7 O O O ?_;refine F9 O ?_)|(apply F5;refine F8 O O ?_;refine F4 O ?_)|(apply D5;refine D9 O O ?_)|(apply G6;refine G7 (D8 O O) O ?_)|(apply K6;refine L9 O O O O O O (fun _=>?_)))|(apply D6)|(apply G8)|(apply F3)|(apply A7)|(refine G5 O ?_;apply E9<;>intro hq<;>(try (exfalso;omega)))|(apply C9)|(apply H9))
  all_goals exact I8 (.blk tb 158 _::H) (by (exact .inl O)) O J3 ⟨O,O⟩
theorem CB3 (hT:∀H,AB2 G H) (K H:List Ent) (s:Scr) (h:OkS s) (hq:TmQ G tb t s K H) (ht:t.size≤1000000) (L:List Int) (hL:∀x∈L,-1≤x∧x≤16383) (hll:L.length≤1000) (kk m n k c:Int) (hn:1≤n∧n≤16383) (i x:ByteArray) (aa:Option Addr) (ac:Nat) [h1:RdC G K aa (ints L)]:SC Tryz.prog G 170 [.pointer (some ⟨tb,0,none⟩),acV kk c m i aa L.length ac x,.int .i64 n,.int .i64 k] H fun v H'=>v=resV []∧TmQ G tb (t++AS1 s c k) (AV8 s c n k L) K H':=by
 unfold AV8 AS1
 by_cases g1:c=103
 ·rw[if_pos g1,if_neg (by omega),if_neg (by omega),AG0];subst g1
  exact hq.blk (by split<;>(try split)<;>rfl) (by split<;>(try split)<;>rfl) (by split<;>(try split)<;>rfl) fun ga gn gc oa on oc pa pn pc H=>B01 G tb t H s h ga gn gc oa on oc pa pn pc kk m n k i x aa L.length ac
 rw[if_neg g1]
 by_cases g2:c=104∨c=108
 ·rw[if_pos g2,if_neg (by omega),if_neg (by omega),AG0]
  exact Bz2 G tb t K H s h hq L kk m n k c i x aa ac hll g2
 rw[if_neg g2]
 by_cases g3:c=109
 ·rw[if_pos g3,if_neg (by omega),if_neg (by omega),AG0];subst g3
  exact Bs2 G tb t K H s h hq L kk m n k i x aa ac hll
 rw[if_neg g3]
 by_cases g4:c=114
 ·rw[if_pos g4,if_neg (by omega),if_neg (by omega),AG0];subst g4
  exact B18 G tb t K H s h hq L hL kk m n k hn i x aa ac
 rw[if_neg g4]
 by_cases g5:c=110
 ·rw[if_pos g5];subst g5
  exact hq.blk O O O fun ga gn gc oa on oc pa pn pc H=>Bt4 G tb t hT H s h ga gn gc oa on oc pa pn pc ht kk m n k i x aa L.length ac
 rw[if_neg g5]
 exact hq.blk O O O fun ga gn gc oa on oc pa pn pc H=>Bs6 G tb t H s ga gn gc oa on oc pa pn pc ht kk m n k c i x aa L.length ac (by omega)
end
end Go.Proofs.YtmmnimagbnlcmaaGreatDoor
