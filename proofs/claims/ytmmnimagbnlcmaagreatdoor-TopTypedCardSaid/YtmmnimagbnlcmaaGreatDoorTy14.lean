/- Texts of this claim, merged: Ter3 Ter4 Ter5 Ter6. -/
import Derived.Test.YtmmnimagbnlcmaaGreatDoorTy13
import Derived.Test.YtmmnimagbnlcmaaGreatDoorRows
import Derived.WalkKit
import Derived.WalkSpells
import Derived.WalkLawsBesides
import Derived.Handy
import Derived.Lib.Hide
import Derived.Laws.BitsAllLaws
import Derived.Deep.MidRow
import Derived.Deep.WholeRow
import Derived.BigQuiet
import Derived.Deep.QuietTactic
import Derived.Laws.CopyOwn
import Derived.StillTailTactics
import Derived.RegionTactic
import Derived.ChangeAlike
import Derived.Laws.AppendOwnNone
import Derived.Laws.MakeOwn
import Derived.Laws.IdiomStrings
import Derived.OrdersHeld
import Derived.Lib.SliceRun
import Derived.ChangeKeysEq
import Derived.Laws.CopyRow
import Derived.Lib.AppendStr
import Derived.ArgAppend
import Derived.Laws.RangeAny
import Derived.Maps.RangeRun
import Derived.Lib.Replace
import Derived.Lib.Join
import Derived.Lib.IndexLaws
import Derived.Lib.IndexMore
import Derived.Lib.SplitLaws
import Derived.Shelf.Strings.Builder1
import Derived.Shelf.Strings.Builder2
import Derived.Shelf.Strings.OnBuilder
import Derived.Shelf.Strings.Trim
import Derived.Shelf.Small.Utf8
import Derived.Shelf.Small.Strs
import Derived.Shelf.Strings.BuilderF
import Derived.Shelf.Strconv.Itoa0
import Derived.Shelf.Strconv.Itoa1
import Derived.Shelf.LaysM
import Derived.Shelf.Strconv.Itoa2
import Derived.Shelf.Strconv.Itoa3
import Derived.Shelf.Strings.Search1
import Derived.Shelf.Strings.Search2
import Derived.Shelf.Strings.Search3
import Derived.Shelf.Strings.Count
import Derived.Shelf.Strings.Shaped
import Derived.Shelf.Strings.LastIndex
import Derived.Shelf.Strings.Prefix
import Derived.Shelf.Strings.Split
import Derived.Shelf.Strings.Replace
import Derived.Shelf.Strings.SplitShaped
import Derived.Shelf.Strings.Runes
import Derived.Shelf.Strings.AsciiSet
import Derived.Shelf.Bits.Mul64
import Derived.Shelf.Strings.Repeat
import Derived.Shelf.Unicode.DecodeSlow
import Derived.Shelf.Unicode.DecodeAny
import Derived.Shelf.Unicode.ValidAny
import Derived.Test.YtmmnimagbnlcmaaGreatDoorProg
import Derived.Lib.Bytealg
set_option maxRecDepth 100000
set_option maxHeartbeats 8000000
open Go Go.RowKit Go.Fw Go.Sx
namespace Go.Proofs.YtmmnimagbnlcmaaGreatDoor
theorem TmQ.col {G:Ctx} {tb:Nat} {t:ByteArray} {s:Scr} {K H:List Ent} (h:TmQ G tb t s K H) (ho:OkS s) (c:Int):SC Tryz.prog G 152 [.pointer (some ⟨tb,0,none⟩),.int .i64 c] H fun v H'=>v=resV []∧TmQ G tb t (colA s c) K H':=
 h.blk rfl rfl rfl fun ga gn gc oa on oc pa pn pc H=>AP0 G H s c tb ga gn gc oa on oc pa pn pc t (by have:=ho.g.size;omega)
theorem A54 {G:Ctx} {tb:Nat} {t:ByteArray} {s:Scr} {K H:List Ent} (h:TmQ G tb t (colA s 0) K H) (ho:OkS s):SC Tryz.prog G 153 [.pointer (some ⟨tb,0,none⟩)] H fun v H'=>v=resV []∧TmQ G tb t (downA s) K H':=A90 G tb t K H (colA s 0) (ho.column 0) h
theorem AU0 {s:Scr} (h:OkS s) {k:Nat} (hk:k<s.h) {M:List Qd} (hM:M.length=s.w):(AP7 s k M).C.length=s.C.length:=by
 have hr:=AM6 (w:=s.w) (h:=s.h) (k:=k) (n:=s.C.length) hk h.g.len
 show (rowC s.C s.w k M).length=s.C.length
 unfold rowC
 rw[List.length_append,List.length_append,List.length_take,List.length_drop,hM]
 omega
theorem Ax5 {w k:Nat} (C:List Qd):C.take (k * w)++rowQ w C k++C.drop (k * w+w)=C:=by
 unfold rowQ
 rw[List.append_assoc,←List.drop_drop,List.take_append_drop,List.take_append_drop]
theorem BL8 (G:Ctx) (H:List Ent) (C:List Qd) (b w h n c k f t:Nat) (x y z:Int) (hg:GrOk w h C) (hn:n=C.length) (hnc:n≤c) (hk:k<h) (hft:f≤t) (ht:t≤w):SC Tryz.prog G 254 [gridV w h (some ⟨b,0,none⟩) n c,.int .i64 k,.int .i64 f,.int .i64 t,penV x y z] (.own 97 4 (some ⟨b,0,none⟩) n c (qds C)::H) fun v H'=>v= .tuple #[]∧H'= .own 97 4 (some ⟨b,0,none⟩) n c (qds (rowC C w k (mendQ J2 (genL qz (rowQ w C k) f t fun _=>(32,x,y,z)))))::H:=by
 have hr:=AM6 (w:=w) (h:=h) (k:=k) (n:=C.length) hk hg.len
 have hs:=hg.size
 have e:=Ax5 (w:=w) (k:=k) C
 have:=BX8 G H (C.take (k * w)) (rowQ w C k) (C.drop (k * w+w)) b w h n c k f t x y z (by rw[List.length_take];omega) (j6 hk hg.len) (by rw[e,hn]) (by rw[hn];exact hg.len1) hnc hs.1.1 (by omega) hft ht
 rw[←Z4,←Z4,e,←Z4,←Z4] at this
 exact this
theorem Ai8 (G:Ctx) (H:List Ent) (C:List Qd) (b w h n c k f t:Nat) (s x y z:Int) (hg:GrOk w h C) (hn:n=C.length) (hnc:n≤c) (hk:k<h) (hft:f≤t) (ht:t≤w) (hs: -16383≤s∧s≤16383):SC Tryz.prog G 155 [gridV w h (some ⟨b,0,none⟩) n c,.int .i64 k,.int .i64 f,.int .i64 t,.int .i64 s,penV x y z] (.own 97 4 (some ⟨b,0,none⟩) n c (qds C)::H) fun v H'=>v= .tuple #[]∧H'= .own 97 4 (some ⟨b,0,none⟩) n c (qds (rowC C w k (mendQ J2 (genL qz (rowQ w C k) f t (shG qz (rowQ w C k) f t s (32,x,y,z))))))::H:=by
 have hr:=AM6 (w:=w) (h:=h) (k:=k) (n:=C.length) hk hg.len
 have hz:=hg.size
 have e:=Ax5 (w:=w) (k:=k) C
 have:=BJ3 G H (C.take (k * w)) (rowQ w C k) (C.drop (k * w+w)) b w h n c k f t s x y z (by rw[List.length_take];omega) (j6 hk hg.len) (by rw[e,hn]) (by rw[hn];exact hg.len1) hnc hz.1.1 (by omega) hft ht hs
 rw[←Z4,←Z4,e,←Z4,←Z4] at this
 exact this
section
attribute [local irreducible] SW SL SQ AtQ SV SC BB LD PK Yields SO SOT SOA SY SP SPT SPA
variable (G:Ctx) (tb:Nat) (t:ByteArray)
theorem BO8 (K:List Ent) (s:Scr) (h:OkS s) (gb gn gc:Nat) (oa:Option Addr) (on oc:Nat) (pa:Option Addr) (pn pc:Nat) (hgn:gn=s.C.length) (hgc:gn≤gc) (r f e:Int) (hr:0≤r∧r<s.h) (hf:0≤f∧f≤e∧e≤s.w):SC Tryz.prog G 216 [.pointer (some ⟨tb,0,none⟩),.int .i64 r,.int .i64 f,.int .i64 e] (.blk tb 158 (trmC s (some ⟨gb,0,none⟩) gn gc oa on oc pa pn pc t):: .own 97 4 (some ⟨gb,0,none⟩) gn gc (qds s.C)::K) fun v H'=>v=resV []∧H'= .blk tb 158 (trmC (fillA s r f e) (some ⟨gb,0,none⟩) gn gc oa on oc pa pn pc t):: .own 97 4 (some ⟨gb,0,none⟩) gn gc (qds (fillA s r f e).C)::K:=by
 have cC:=fun (H:List Ent) (_:HasBlk H tb 158 (trmC {s with late:=false} (some ⟨gb,0,none⟩) gn gc oa on oc pa pn pc t))=>AJ5 G H {s with late:=false} tb (some ⟨gb,0,none⟩) gn gc oa on oc pa pn pc t
 have cS:=fun (H:List Ent)=>BL8 G H s.C gb s.w s.h gn gc r.toNat f.toNat e.toNat 0 0 s.pb h.g hgn hgc (by omega) (by omega) (by omega)
 rw[Int.toNat_of_nonneg hr.1,Int.toNat_of_nonneg hf.1,Int.toNat_of_nonneg (show 0≤e by omega)] at cS
 unfold fillA AP7 lateA
 dsimp only
 generalize rowC s.C s.w r.toNat (mendQ J2 (genL qz (rowQ s.w s.C r.toNat) f.toNat e.toNat fun _=>(32,0,0,s.pb)))=C' at *
 unfold trmC at *
 try dsimp only at cC
 refine Y6 Tryz.func216 O O O O O ?_
 repeat' (first|(apply E8;first|(apply A8;refine A9 ?_)|(apply C8;refine D7 O O ?_)|(apply G6;refine G7 (D8 O O) O ?_)|(apply I9;refine J7 (F6 O O) O ?_)|(apply H5;first|refine H6 O O O (cC _ inferInstance) O O ?_ |(refine c_call O O O (o7 PickOwn.here (cS _)) O O ?_;rintro _ _ ⟨rfl,rfl⟩))|(apply H8;refine M9 O O O O O O O ?_))|(apply Q0;refine N8 (k:=0) J3 ?_)|(apply U3;first|(refine L8 O ?_)|(refine O4 O O O O (by kernel_rfl) (by decide+kernel) (by decide+kernel) ?_;first|(apply O1;refine G9 (P9 O O) ?_)|(apply R9;refine R6 O ?_;refine O9 O O ?_)|(apply M3;refine G9 (D8 O O) ?_)|(apply R5;refine G9 (F6 O O) ?_))|(refine O5 O ?_)|(refine N9 (by decide+kernel) ?_)|(refine Q6 (by kernel_rfl) ?_))|(apply V3;first|(refine Q5 O)|(refine U1 (by decide+kernel) ?_)|(refine Q3 O ?_ ?_))|(apply D6)|(apply A7)|(apply C9)|(refine J5 (id:=1) ?_;refine AA6 (a:=some ⟨gb,0,none⟩) ?_))
 all_goals exact I8 (.blk tb 158 _:: .own 97 4 (some ⟨gb,0,none⟩) gn gc (qds C')::K) (.inl O) O J3 ⟨O,O⟩
theorem fillQ (K H:List Ent) (s:Scr) (h:OkS s) (hq:TmQ G tb t s K H) (r f e:Int) (hr:0≤r∧r<s.h) (hf:0≤f∧f≤e∧e≤s.w):SC Tryz.prog G 216 [.pointer (some ⟨tb,0,none⟩),.int .i64 r,.int .i64 f,.int .i64 e] H fun v H'=>v=resV []∧TmQ G tb t (fillA s r f e) K H':=by
 have hk:r.toNat<s.h:=by omega
 exact hq.grid (AU0 (s:=lateA s) h.lateA hk (by rw[AH0,AC4];exact j6 hk h.g.len)) O O fun gb gn gc oa on oc pa pn pc H hgn hgc=>BO8 G tb t H s h gb gn gc oa on oc pa pn pc hgn hgc r f e hr hf
theorem BK3 (s:Scr):(j4 s).w=s.w∧(j4 s).h=s.h∧(j4 s).col=s.col∧(j4 s).modes=s.modes:=by
 unfold j4
 split
 ·unfold rollA pushA;split<;>exact⟨O,O,O,O⟩
 ·split<;>exact⟨O,O,O,O⟩
theorem Ag4 {s:Scr} (h:OkS s):(downA s).w=s.w∧(downA s).col=0∧(downA s).modes=s.modes:=by
 have hz:=h.g.size
 have hi:=BK3 (colA s 0)
 refine⟨hi.1,hi.2.2.1.trans ?_,hi.2.2.2⟩
 show AI7 0 0 ((s.w:Int)-1)=0
 unfold AI7;omega
theorem B67 (K H:List Ent) (s:Scr) (h:OkS s) (hq:TmQ G tb t s K H) (c:Int) (hc: -1≤c∧c≤2000000):SC Tryz.prog G 105 [.pointer (some ⟨tb,0,none⟩),.int .i64 c] H fun v H'=>v=resV []∧TmQ G tb t (Ag1 s c) K H':=by
 have hz:=h.g.size
 unfold Ag1
 refine I7 Tryz.func105 O O O O O ?_
 refine D6 (D6 ?_)
 refine Ag9 (α:=Unit) (fun _=>[(0,.pointer (some ⟨tb,0,none⟩)),(1,.int .i64 (codeA s c))]) (fun _=>H) (fun _=>True) ?_ ?_
 ·obtain⟨gb,gn,gc,ob,on,oc,P,pa,pn,pc,X,E,rfl,hi⟩:=hq
  by_cases hl:0≤c∧c≤127
  ·have cP:=fun (H:List Ent) (p:Int) (hp:1≤p∧p≤4)=>BD4 G H p c.toNat (by omega) hp
   rw[Int.toNat_of_nonneg hl.1] at cP
   unfold codeA
   rw[if_pos hl]
   have hp0:=h.p0
   have hp1:=h.p1
   rcases (show s.sh=0∨s.sh=1 from by have:=h.sh;omega) with hs|hs
   ·have hv:Value.int .i64 s.sh= .int .i64 0:=by rw[hs]
    rw[if_pos hs]
    unfold trmC
    rw[hv]
    repeat' (first|(apply E8;first|(apply A8;refine A9 ?_)|(apply C8;refine D7 O O ?_)|(apply E5;refine F7 O O O ?_;refine F9 O ?_)|(apply I6;refine J4 O O ?_;apply P7;refine P6 O ?_)|(apply I5;refine J9 O O O O ?_;first|(apply I1)|(apply E9<;>intro hq<;>(try (exfalso;omega)))))|(apply u7;first|(apply Y3;refine Y2 ?_)|(apply Y8;refine j5 O O ?_)|(apply V8;refine Y4 O O ?_;refine F4 O ?_)|(apply Y1;refine Z7 O O ?_)|(apply V9;refine X9 (D8 O O) O ?_)|(apply AY5;refine Ad8 (M0 O O O) O ?_)|(apply As0;refine A92 (AC1 (k:= .u8) O O ⟨by omega,by omega⟩) O ?_)|(apply AO7;refine AL6 (l7 O O O (by omega) (by omega)) O ?_)|(apply p8;refine AA0 (F6 O O) O ?_)|(apply AE3;refine V7 O O O (cP _ _ hp0) O O ?_))|(apply A7)|(refine G5 O ?_;apply E9<;>intro hq<;>(try (exfalso;omega)))|(apply C9)|refine V6 (by kernel_rfl) ?_)
    all_goals exact J6 () trivial Q7 (fun _ hw=>hw)
   ·have hv:Value.int .i64 s.sh= .int .i64 1:=by rw[hs]
    rw[if_neg (by rw[hs];decide)]
    unfold trmC
    rw[hv]
    repeat' (first|(apply E8;first|(apply A8;refine A9 ?_)|(apply C8;refine D7 O O ?_)|(apply E5;refine F7 O O O ?_;refine F9 O ?_)|(apply I6;refine J4 O O ?_;apply P7;refine P6 O ?_)|(apply I5;refine J9 O O O O ?_;first|(apply I1)|(apply E9<;>intro hq<;>(try (exfalso;omega)))))|(apply u7;first|(apply Y3;refine Y2 ?_)|(apply Y8;refine j5 O O ?_)|(apply V8;refine Y4 O O ?_;refine F4 O ?_)|(apply Y1;refine Z7 O O ?_)|(apply V9;refine X9 (D8 O O) O ?_)|(apply AY5;refine Ad8 (M0 O O O) O ?_)|(apply As0;refine A92 (AC1 (k:= .u8) O O ⟨by omega,by omega⟩) O ?_)|(apply AO7;refine AL6 (l7 O O O (by omega) (by omega)) O ?_)|(apply p8;refine AA0 (F6 O O) O ?_)|(apply AE3;refine V7 O O O (cP _ _ hp1) O O ?_))|(apply A7)|(refine G5 O ?_;apply E9<;>intro hq<;>(try (exfalso;omega)))|(apply C9)|refine V6 (by kernel_rfl) ?_)
    all_goals exact J6 () trivial Q7 (fun _ hw=>hw)
  ·unfold codeA
   rw[if_neg hl]
   repeat' (first|(apply E8;first|(apply A8;refine A9 ?_)|(apply C8;refine D7 O O ?_)|(apply E5;refine F7 O O O ?_;refine F9 O ?_)|(apply I6;refine J4 O O ?_;first|(apply P7;refine P6 O ?_)|(apply M6;refine M7 O ?_))|(apply I5;refine J9 O O O O ?_;first|(apply I1)|(apply H7)|(apply E9<;>intro hq<;>(try (exfalso;omega)))))|(apply G8)|(apply A7)|(refine G5 O ?_;first|(apply H7)|(apply E9<;>intro hq<;>(try (exfalso;omega))))|(apply C9))
   all_goals exact J6 () trivial Q7 (fun _ hw=>hw)
 rintro ⟨⟩-
 generalize codeA s c=d
 have cW:=fun H=>AT7 G H d
 have hw012:=Af9 d
 have hw0:J2 d≠0∨J2 d=0:=by omega
 unfold A63
 by_cases hg:J2 d=0∨J2 d>s.w
 ·rw[if_pos hg]
  have fin:TmQ G tb t s K H:=hq
  generalize J2 d=w at *
  obtain⟨gb,gn,gc,ob,on,oc,P,pa,pn,pc,X,E,rfl,hi⟩:=hq
  unfold trmC
  repeat' (first|(apply E8;first|(apply A8;refine A9 ?_)|(apply C8;refine D7 O O ?_)|(apply E5;refine F7 O O O ?_;refine F9 O ?_)|(apply F5;refine F8 O O ?_;refine F4 O ?_)|(apply I6;refine J4 O O ?_;first|(apply P7;refine P6 O ?_)|(apply M6;refine M7 O ?_))|(apply G6;refine G7 (D8 O O) O ?_)|(apply I9;refine J7 (F6 O O) O ?_)|(apply I5;refine J9 O O O O ?_;first|(apply I1)|(apply d9)|(apply P5<;>intro hq<;>(try (exfalso;omega)))))|(apply u7;first|(apply Y3;refine Y2 ?_)|(apply Y8;refine j5 O O ?_)|(apply AA5;refine AC8 O O O ?_;apply U8;refine V4 ⟨by omega,by omega⟩ ?_)|(apply V8;refine Y4 O O ?_;refine F4 O ?_)|(apply Y1;refine Z7 O O ?_)|(apply V9;refine X9 (D8 O O) O ?_)|(apply p8;refine AA0 (F6 O O) O ?_)|(apply AE3;refine V7 O O O (cW _) O O ?_))|(apply D6)|(apply I4)|(apply A7)|(refine G5 O ?_;first|(apply I1)|(apply E9<;>intro hq<;>(try (exfalso;omega))))|(apply C9)|(apply J8)|refine V6 (by kernel_rfl) ?_)
  all_goals exact I8 _ (by (exact .inr O)) O (fun _ hw=>hw) ⟨O,fin⟩
 rw[if_neg hg]
 have hg1:J2 d≤s.w:=by omega
 have hg2:J2 d=1∨J2 d=2:=by omega
 clear hg hw0 hw012
 generalize hwd:J2 d=w at *
 have hq0:=hq
 obtain⟨gb,gn,gc,ob,on,oc,P,pa,pn,pc,X,E,rfl,hi⟩:=hq
 unfold trmC
 repeat' (first|(apply E8;first|(apply A8;refine A9 ?_)|(apply C8;refine D7 O O ?_)|(apply E5;refine F7 O O O ?_;refine F9 O ?_)|(apply F5;refine F8 O O ?_;refine F4 O ?_)|(apply I6;refine J4 O O ?_;apply M6;refine M7 O ?_)|(apply G6;refine G7 (D8 O O) O ?_)|(apply I9;refine J7 (F6 O O) O ?_)|(apply I5;refine J9 O O O O ?_;first|(apply I1)|(apply P5<;>intro hq<;>(try (exfalso;omega)))))|(apply u7;first|(apply Y3;refine Y2 ?_)|(apply Y8;refine j5 O O ?_)|(apply AA5;refine AC8 O O O ?_;apply U8;refine V4 ⟨by omega,by omega⟩ ?_)|(apply V8;refine Y4 O O ?_;refine F4 O ?_)|(apply Y1;refine Z7 O O ?_)|(apply V9;refine X9 (D8 O O) O ?_)|(apply p8;refine AA0 (F6 O O) O ?_)|(apply AE3;refine V7 O O O (cW _) O O ?_))|(apply D6)|(apply G8)|((fail_if_success (refine J5 (id:=4) ?_));apply A7)|(refine G5 O ?_;apply E9<;>intro hq<;>(try (exfalso;omega)))|(apply C9)|((fail_if_success (refine J5 (id:=4) ?_));refine V6 (by kernel_rfl) ?_))
 all_goals
  refine Ag9 (α:=List Ent) (fun _=>[(0,.pointer (some ⟨tb,0,none⟩)),(1,.int .i64 d),(4,.int .i64 w),(5,.int .i64 ((s.w:Int)-1))]) (fun g=>g) (fun g=>TmQ G tb t (if s.late=true then downA s else s) K g) ?_ ?_
  ·cases hl:s.late
   ·unfold trmC at hq0
    rw[hl] at hq0
    rw[if_neg (by decide)]
    repeat' (first|(apply E8;first|(apply A8;refine A9 ?_)|(apply C8;refine D7 O O ?_)|(apply F5;refine F8 O O ?_;refine F4 O ?_)|(apply G6;refine G7 (D8 O O) O ?_)|(apply I9;refine J7 (F6 O O) O ?_))|(apply G8)|(apply A7)|(refine G5 O ?_;apply H7)|(apply C9))
    exact J6 _ hq0 Q7 (fun _ hw=>hw)
   ·unfold trmC at hq0
    rw[hl] at hq0
    rw[if_pos rfl]
    repeat' (first|(apply E8;first|(apply A8;refine A9 ?_)|(apply C8;refine D7 O O ?_)|(apply F5;refine F8 O O ?_;refine F4 O ?_)|(apply G6;refine G7 (D8 O O) O ?_)|(apply I9;refine J7 (F6 O O) O ?_)|(apply H5;first|(refine c_call O O O (hq0.col h 0) O O ?_;rintro _ _ ⟨rfl,hq1⟩)|(refine c_call O O O (A54 hq1 h) O O ?_;rintro _ _ ⟨rfl,hq2⟩)))|(apply D6)|(apply A7)|(refine G5 O ?_;apply I1)|(apply C9))
    exact J6 _ hq2 Q7 (fun _ hw=>hw)
  intro H1 hq1
  have hs1:OkS (if s.late=true then downA s else s):=by split;exact h.down;exact h
  have hw1:(if s.late=true then downA s else s).w=s.w:=by split;exact(Ag4 h).1;rfl
  generalize (if s.late=true then downA s else s)=s1 at *
  clear hq0 hi hz hc h cW
  rw[←hw1] at hg1 ⊢
  clear hw1
  have h:=hs1
  have hz:=h.g.size
  have hcol:=h.col
  unfold A18
  by_cases hA:(w=2∧s1.col=(s1.w:Int)-1)∧onA s1 4=false
  ·rw[if_pos hA.1,if_pos hA.2]
   have hq0:=hq1
   have hA1:=hA.1.1
   have hA2:=hA.1.2
   obtain⟨gb,gn,gc,ob,on,oc,P,pa,pn,pc,X,E,rfl,hi⟩:=hq1
   have cI:=fun (H:List Ent) (cs:List Value) (b:Bool) (hb:onA s1 4=b)=>AJ1 G H tb 4 (by decide) cs s1.modes h.modes b hb
   unfold trmC
   repeat' (first|(apply E8;first|(apply A8;refine A9 ?_)|(apply C8;refine D7 O O ?_)|(apply E5;refine F7 O O O ?_;refine F9 O ?_)|(apply F5;refine F8 O O ?_;refine F4 O ?_)|(apply I6;refine J4 O O ?_;apply P7;refine P6 O ?_)|(apply G6;refine G7 (D8 O O) O ?_)|(apply X5;refine Z9 (Z8 O O O) O ?_)|(apply I9;refine J7 (F6 O O) O ?_)|(apply H5;refine H6 O O O (cI _ _ _ hA.2 inferInstance O) O O ?_)|(apply I5;refine J9 O O O O ?_;first|(apply I1)|(apply E9<;>intro hq<;>(try (exfalso;omega)))))|(apply D6)|(apply I4)|(apply A7)|(refine G5 O ?_;first|(apply I1)|(apply E9<;>intro hq<;>(try (exfalso;omega))))|(apply C9)|(apply J8))
   all_goals exact I8 _ (by (exact .inr O)) O (fun _ hw=>hw) ⟨O,hq0⟩
  have hs2:(if w=2∧s1.col=(s1.w:Int)-1 then (if onA s1 4=false then s1 else AV2 (downA s1) d w) else AV2 s1 d w)=AV2 (if w=2∧s1.col=(s1.w:Int)-1 then downA s1 else s1) d w:=by
   split
   ·rename_i hx
    rw[if_neg (fun e=>hA ⟨hx,e⟩)]
   ·rfl
  rw[hs2]
  clear hs2
  repeat' (apply D6)
  refine Ag9 (α:=List Ent) (fun _=>[(0,.pointer (some ⟨tb,0,none⟩)),(1,.int .i64 d),(4,.int .i64 w),(5,.int .i64 ((s1.w:Int)-1))]) (fun g=>g) (fun g=>TmQ G tb t (if w=2∧s1.col=(s1.w:Int)-1 then downA s1 else s1) K g) ?_ ?_
  ·have hq0:=hq1
   obtain⟨gb,gn,gc,ob,on,oc,P,pa,pn,pc,X,E,rfl,hi⟩:=hq1
   have cI:=fun (H:List Ent) (cs:List Value) (b:Bool) (hb:onA s1 4=b)=>AJ1 G H tb 4 (by decide) cs s1.modes h.modes b hb
   by_cases hB:w=2∧s1.col=(s1.w:Int)-1
   ·have hC:onA s1 4=true:=by
     cases hb:onA s1 4
     ·exact absurd ⟨hB,hb⟩ hA
     ·rfl
    have hB1:=hB.1
    have hB2:=hB.2
    rw[if_pos hB]
    unfold trmC
    repeat' (first|(apply E8;first|(apply A8;refine A9 ?_)|(apply C8;refine D7 O O ?_)|(apply E5;refine F7 O O O ?_;refine F9 O ?_)|(apply F5;refine F8 O O ?_;refine F4 O ?_)|(apply I6;refine J4 O O ?_;apply P7;refine P6 O ?_)|(apply G6;refine G7 (D8 O O) O ?_)|(apply X5;refine Z9 (Z8 O O O) O ?_)|(apply I9;refine J7 (F6 O O) O ?_)|(apply H5;first|refine H6 O O O (cI _ _ _ hC inferInstance O) O O ?_ |(refine c_call O O O (hq0.col h 0) O O ?_;rintro _ _ ⟨rfl,hq2⟩)|(refine c_call O O O (A54 hq2 h) O O ?_;rintro _ _ ⟨rfl,hq3⟩))|(apply I5;refine J9 O O O O ?_;first|(apply I1)|(apply E9<;>intro hq<;>(try (exfalso;omega)))))|(apply D6)|(apply G8)|(apply A7)|(refine G5 O ?_;first|(apply H7)|(apply E9<;>intro hq<;>(try (exfalso;omega))))|(apply C9))
    exact J6 _ hq3 Q7 (fun _ hw=>hw)
   ·rw[if_neg hB]
    have hB1:w=2→s1.col≠(s1.w:Int)-1:=fun e1 e2=>hB ⟨e1,e2⟩
    unfold trmC
    rcases hg2 with e1|e1
    all_goals
     subst e1
     repeat' (first|(apply E8;first|(apply A8;refine A9 ?_)|(apply C8;refine D7 O O ?_)|(apply E5;refine F7 O O O ?_;refine F9 O ?_)|(apply F5;refine F8 O O ?_;refine F4 O ?_)|(apply I6;refine J4 O O ?_;first|(apply P7;refine P6 O ?_)|(apply M6;refine M7 O ?_))|(apply G6;refine G7 (D8 O O) O ?_)|(apply I9;refine J7 (F6 O O) O ?_)|(apply I5;refine J9 O O O O ?_;first|(apply I1)|(apply H7)))|(apply G8)|(apply A7)|(refine G5 O ?_;first|(apply H7)|(apply E9<;>intro hq<;>(try (exfalso;omega))))|(apply C9))
     all_goals exact J6 _ hq0 Q7 (fun _ hw=>hw)
  intro H2 hq2
  have h2:OkS (if w=2∧s1.col=(s1.w:Int)-1 then downA s1 else s1):=by split;exact h.down;exact h
  have hw2:(if w=2∧s1.col=(s1.w:Int)-1 then downA s1 else s1).w=s1.w:=by split;exact(Ag4 h).1;rfl
  have hc2:(if w=2∧s1.col=(s1.w:Int)-1 then downA s1 else s1).col+w≤s1.w:=by
   split
   ·rw[(Ag4 h).2.1];omega
   ·omega
  generalize (if w=2∧s1.col=(s1.w:Int)-1 then downA s1 else s1)=s2 at *
  rw[←hw2] at hg1 hc2 ⊢
  clear hw2 hA hq1 hs1 hz hcol h
  have hz:=h2.g.size
  have hro:=h2.row
  have hco:=h2.col
  unfold AV2
  repeat' (apply D6)
  refine Ag9 (α:=List Ent) (fun _=>[(0,.pointer (some ⟨tb,0,none⟩)),(1,.int .i64 d),(4,.int .i64 w),(5,.int .i64 ((s2.w:Int)-1))]) (fun g=>g) (fun g=>TmQ G tb t (insA s2 w) K g) ?_ ?_
  ·have hq0:=hq2
   obtain⟨gb,gn,gc,ob,on,oc,P,pa,pn,pc,X,E,rfl,hi⟩:=hq2
   have cI:=fun (H:List Ent) (cs:List Value) (b:Bool) (hb:onA s2 1=b)=>AJ1 G H tb 1 (by decide) cs s2.modes h2.modes b hb
   unfold insA
   cases hb:onA s2 1
   ·rw[if_neg (by decide)]
    unfold trmC
    repeat' (first|(apply E8;first|(apply A8;refine A9 ?_)|(apply C8;refine D7 O O ?_)|(apply H5;refine H6 O O O (cI _ _ _ hb inferInstance O) O O ?_))|(apply G8)|(apply A7)|(refine G5 O ?_;apply H7)|(apply C9))
    exact J6 _ hq0 Q7 (fun _ hw=>hw)
   ·rw[if_pos rfl]
    have hi2:TmI G (AH7 s2 w) gn gc on oc P pa pn pc X E:=hi.same (AU0 h2 (by omega) (by rw[AH0,AC4];exact j6 (by omega) h2.g.len)) rfl rfl
    have hfin:∀H',H'= .blk tb 158 (trmC (AH7 s2 w) (some ⟨gb,0,none⟩) gn gc (some ⟨ob,0,none⟩) on oc pa pn pc t):: .own 97 4 (some ⟨gb,0,none⟩) gn gc (qds (AH7 s2 w).C):: .own 97 4 (some ⟨ob,0,none⟩) on oc (qds (AH7 s2 w).D)::P::(E++K)→TmQ G tb t (AH7 s2 w) K H':=fun H' e=>⟨gb,gn,gc,ob,on,oc,P,pa,pn,pc,X,E,e,hi2⟩
    have cC:=fun (H:List Ent) (_:HasBlk H tb 158 (trmC s2 (some ⟨gb,0,none⟩) gn gc (some ⟨ob,0,none⟩) on oc pa pn pc t))=>AJ5 G H s2 tb (some ⟨gb,0,none⟩) gn gc (some ⟨ob,0,none⟩) on oc pa pn pc t
    have cS:=fun (H:List Ent)=>Ai8 G H s2.C gb s2.w s2.h gn gc s2.row.toNat s2.col.toNat s2.w w 0 0 s2.pb h2.g hi.gn' hi.gc' (by omega) (by omega) (by omega) (by omega)
    rw[Int.toNat_of_nonneg hro.1,Int.toNat_of_nonneg hco.1] at cS
    unfold AH7 AP7 at hfin ⊢
    try dsimp only at hfin ⊢
    generalize rowC s2.C s2.w s2.row.toNat _=C' at *
    unfold trmC at *
    try dsimp only at cC
    repeat' (first|(apply E8;first|(apply A8;refine A9 ?_)|(apply C8;refine D7 O O ?_)|(apply H5;first|refine H6 O O O (cI _ _ _ hb inferInstance O) O O ?_ |refine H6 O O O (cC _ inferInstance) O O ?_ |(refine c_call O O O (o7 PickOwn.here (cS _)) O O ?_;rintro _ _ ⟨rfl,rfl⟩)))|(apply Q0;refine N8 (k:=0) J3 ?_)|(apply U3;first|(refine L8 O ?_)|(refine O4 O O O O (by kernel_rfl) (by decide+kernel) (by decide+kernel) ?_;first|(apply O1;refine G9 (P9 O O) ?_)|(apply R9;refine R6 O ?_;first|refine F4 O ?_ |refine O9 O O ?_)|(apply M3;refine G9 (D8 O O) ?_)|(apply R5;refine G9 (F6 O O) ?_))|(refine O5 O ?_)|(refine N9 (by decide+kernel) ?_)|(refine Q6 (by kernel_rfl) ?_))|(apply V3;first|(refine Q5 O)|(refine U1 (by decide+kernel) ?_)|(refine Q3 O ?_ ?_))|(apply A7)|(refine G5 O ?_;apply I1)|(apply C9)|(refine J5 (id:=12) ?_;refine AA6 (a:=some ⟨gb,0,none⟩) ?_))
    all_goals exact J6 _ (hfin _ O) Q7 J3
  intro H3 hq3
  have h3:=h2.ins w
  have hs3:(insA s2 w).w=s2.w∧(insA s2 w).col=s2.col∧(insA s2 w).row=s2.row∧(insA s2 w).h=s2.h:=by unfold insA;split<;>exact⟨O,O,O,O⟩
  rw[←hs3.1] at hc2 ⊢
  rw[←hs3.2.1] at hc2
  generalize insA s2 w=s3 at *
  clear hs3 hq2 h2 hz hro hco hg1
  have hz:=h3.g.size
  have hro:=h3.row
  have hco:=h3.col
  obtain⟨gb,gn,gc,ob,on,oc,P,pa,pn,pc,X,E,rfl,hi⟩:=hq3
  have hi2:TmI G (putA s3 d) gn gc on oc P pa pn pc X E:=hi.same (AU0 h3 (by omega) (by rw[AH0,A04];exact j6 (by omega) h3.g.len)) rfl rfl
  have hi3:TmI G (goA (putA s3 d) w) gn gc on oc P pa pn pc X E:=hi2.same (by unfold goA;split<;>rfl) (by unfold goA;split<;>rfl) (by unfold goA;split<;>rfl)
  have hfin:∀H',H'= .blk tb 158 (trmC (goA (putA s3 d) w) (some ⟨gb,0,none⟩) gn gc (some ⟨ob,0,none⟩) on oc pa pn pc t):: .own 97 4 (some ⟨gb,0,none⟩) gn gc (qds (goA (putA s3 d) w).C):: .own 97 4 (some ⟨ob,0,none⟩) on oc (qds (goA (putA s3 d) w).D)::P::(E++K)→TmQ G tb t (goA (putA s3 d) w) K H':=fun H' e=>⟨gb,gn,gc,ob,on,oc,P,pa,pn,pc,X,E,e,hi3⟩
  have cI:=fun (H:List Ent) (cs:List Value)=>AJ1 G H tb 4 (by decide) cs s3.modes h3.modes (onA s3 4) rfl
  have cQ:=fun (H:List Ent)=>BP5 G H s3.C gb s3.w s3.h gn gc s3.row.toNat s3.col.toNat d s3.pf s3.pr s3.pb h3.g hi.gn' hi.gc' (by omega) (by omega) (by intro h2;rw[hwd] at h2;omega)
  rw[Int.toNat_of_nonneg hro.1,Int.toNat_of_nonneg hco.1] at cQ
  clear hi hi2 hi3
  unfold goA putA AP7 at hfin ⊢
  try dsimp only at hfin ⊢
  generalize rowC s3.C s3.w s3.row.toNat _=C' at *
  have hon:onA {s3 with C:=C'} 4=onA s3 4:=rfl
  rw[hon] at hfin
  by_cases hx:s3.col+w>(s3.w:Int)-1
  ·rw[if_pos hx] at hfin ⊢
   unfold trmC at *
   rcases hg2 with rfl|rfl
   all_goals
    repeat' (first|(apply E8;first|(apply A8;refine A9 ?_)|(apply C8;refine D7 O O ?_)|(apply E5;refine F7 O O O ?_;first|(apply K9;refine L6 ⟨by omega,by omega⟩ ?_)|refine F9 O ?_)|(apply F5;refine F8 O O ?_;refine F4 O ?_)|(apply G6;refine G7 (D8 O O) O ?_)|(apply I9;refine J7 (F6 O O) O ?_)|(apply H5;first|refine H6 O O O (cI _ _ inferInstance O) O O ?_ |(refine c_call O O O (o7 PickOwn.here (cQ _)) O O ?_;rintro _ _ ⟨rfl,rfl⟩))|(apply H8;refine M9 O O O O O O O ?_))|(apply Q0;refine N8 (k:=0) J3 ?_)|(apply U3;first|(refine L8 O ?_)|(refine O4 O O O O (by kernel_rfl) (by decide+kernel) (by decide+kernel) ?_;first|(apply O1;refine G9 (P9 O O) ?_)|(apply R9;refine R6 O ?_;first|refine F4 O ?_ |refine O9 O O ?_)|(apply M3;refine G9 (D8 O O) ?_)|(apply R5;refine G9 (F6 O O) ?_))|(refine O5 O ?_)|(refine N9 (by decide+kernel) ?_)|(refine Q6 (by kernel_rfl) ?_))|(apply V3;first|(refine Q5 O)|(refine U1 (by decide+kernel) ?_)|(refine Q3 O ?_ ?_))|(apply D6)|(apply A7)|(refine G5 O ?_;apply E9<;>intro hq<;>(try (exfalso;omega)))|(apply C9)|(refine J5 (id:=13) ?_;refine AA6 (a:=some ⟨gb,0,none⟩) ?_))
    all_goals exact I8 _ (.inl O) O J3 ⟨O,hfin _ O⟩
  ·rw[if_neg hx] at hfin ⊢
   unfold trmC at *
   rcases hg2 with rfl|rfl
   all_goals
    repeat' (first|(apply E8;first|(apply A8;refine A9 ?_)|(apply C8;refine D7 O O ?_)|(apply E5;refine F7 O O O ?_;first|(apply K9;refine L6 ⟨by omega,by omega⟩ ?_)|refine F9 O ?_)|(apply F5;refine F8 O O ?_;refine F4 O ?_)|(apply G6;refine G7 (D8 O O) O ?_)|(apply I9;refine J7 (F6 O O) O ?_)|(apply H5;refine c_call O O O (o7 PickOwn.here (cQ _)) O O ?_;rintro _ _ ⟨rfl,rfl⟩)|(apply H8;refine M9 O O O O O O O ?_))|(apply Q0;refine N8 (k:=0) J3 ?_)|(apply U3;first|(refine L8 O ?_)|(refine O4 O O O O (by kernel_rfl) (by decide+kernel) (by decide+kernel) ?_;first|(apply O1;refine G9 (P9 O O) ?_)|(apply R9;refine R6 O ?_;first|refine F4 O ?_ |refine O9 O O ?_)|(apply M3;refine G9 (D8 O O) ?_)|(apply R5;refine G9 (F6 O O) ?_))|(refine O5 O ?_)|(refine N9 (by decide+kernel) ?_)|(refine Q6 (by kernel_rfl) ?_))|(apply V3;first|(refine Q5 O)|(refine U1 (by decide+kernel) ?_)|(refine Q3 O ?_ ?_))|(apply D6)|(apply G8)|(apply A7)|(refine G5 O ?_;apply E9<;>intro hq<;>(try (exfalso;omega)))|(apply C9)|(refine J5 (id:=13) ?_;refine AA6 (a:=some ⟨gb,0,none⟩) ?_))
    all_goals exact I8 _ (.inl O) O J3 ⟨O,hfin _ O⟩
end
instance :MapT Tryz.prog 145 3 5 (.int .i64):=⟨Tryz.underlying145,Tryz.underlying3,rfl⟩
instance :MapT Tryz.prog 254 3 3 (.int .i64):=⟨Tryz.underlying254,Tryz.underlying3,rfl⟩
theorem A65 {f:Nat→Nat} (hf:Wf f):Words (AA1 f).toArray f:=⟨rfl,fun j hj=>⟨by
 have:=AX3 f j hj
 rwa [←List.getElem?_toArray] at this,hf j hj⟩⟩
theorem A45 (G:Ctx) (H:List Ent) (f:Nat→Nat) (hf:Wf f) (col n:Int) (wide:Nat) (h1:1≤wide∧wide≤160) (h3:0≤col∧col<wide) (h4:1≤n∧n≤16383):SV Tryz.prog G 158 [.agg (AA1 f).toArray,.int .i64 col,.int .i64 n,.int .i64 wide] H (.tuple #[.int .i64 (nextV f col.toNat n.toNat wide),.int .i64 0]):=
 u6 (l8 Tryz.func158 rfl rfl) fun w _=>by
  have h:=A85 (AA1 f).toArray f col.toNat n.toNat wide w (A65 hf) h1.1 h1.2 (by omega) (by omega) (by omega)
  rwa [Int.toNat_of_nonneg h3.1,Int.toNat_of_nonneg (show 0≤n by omega)] at h
theorem Bd8 (G:Ctx) (H:List Ent) (f:Nat→Nat) (hf:Wf f) (col n:Int) (h3:0≤col∧col≤255) (h4:1≤n∧n≤16383):SV Tryz.prog G 214 [.agg (AA1 f).toArray,.int .i64 col,.int .i64 n] H (.tuple #[.int .i64 (backV f col.toNat n.toNat),.int .i64 0]):=
 u6 (l8 Tryz.func214 rfl rfl) fun w _=>by
  have h:=A36 (AA1 f).toArray f col.toNat n.toNat w (A65 hf) (by omega) (by omega) (by omega)
  rwa [Int.toNat_of_nonneg h3.1,Int.toNat_of_nonneg (show 0≤n by omega)] at h
theorem BM3 (G:Ctx) (H:List Ent) (w h:Nat) (hw:1≤w∧w≤160) (hh:1≤h∧h≤60):SC Tryz.prog G 45 [.int .i64 w,.int .i64 h] H fun v H'=>∃g2 o2 c,w * h≤c∧v= .tuple #[.agg (scnC (newS w h) (some ⟨g2,0,none⟩) (w * h) (w * h) (some ⟨o2,0,none⟩) (w * h) c none 0 0).toArray,.int .i64 0]∧H'= .own 97 4 (some ⟨o2,0,none⟩) (w * h) c (qds (newS w h).D):: .own 97 4 (some ⟨g2,0,none⟩) (w * h) (w * h) (qds (newS w h).C)::H:=by
 have hpos:0<w * h:=Nat.mul_pos (by omega) (by omega)
 have h:=Ax7 G H w h hw hh
 refine⟨h.1,fun w hw=>(h.2 w hw).mono fun _ w' ⟨v,H',h1,h2,h3⟩=>?_⟩
 obtain⟨ga,oa,c,h4,h5⟩:=h3
 subst h5
 obtain⟨o2,rfl,hc⟩:=Ab0 h2 List.mem_cons_self hpos
 obtain⟨g2,rfl,-⟩:=Ab0 h2 (List.mem_cons_of_mem _ List.mem_cons_self) hpos
 exact⟨v,_,h1,h2,g2,o2,c,hc,h4,O⟩
section
attribute [local irreducible] SW SL SQ AtQ SV SC BB LD PK Yields SO SOT SOA SY SP SPT SPA
variable (G:Ctx) (tb:Nat) (t:ByteArray)
theorem ctrlQ (K H:List Ent) (s:Scr) (h:OkS s) (hq:TmQ G tb t s K H) (c:Int):SC Tryz.prog G 106 [.pointer (some ⟨tb,0,none⟩),.int .i64 c] H fun v H'=>v=resV []∧TmQ G tb t (ctrlA s c) K H':=by
 have hz:=h.g.size
 have hc:=h.col
 unfold ctrlA
 by_cases h1:c=8
 ·rw[if_pos h1]
  subst h1
  have hq0:=hq
  obtain⟨gb,gn,gc,ob,on,oc,P,pa,pn,pc,X,E,rfl,hi⟩:=hq
  unfold trmC at hq0 ⊢
  refine I7 Tryz.func106 O O O O O ?_
  repeat' (first|(apply E8;first|(apply A8;refine A9 ?_)|(apply C8;refine D7 O O ?_)|(apply E5;refine F7 O O O ?_;first|(apply U8;refine V4 ⟨by omega,by omega⟩ ?_)|refine F9 O ?_)|(apply F5;refine F8 O O ?_;refine F4 O ?_)|(apply D5;refine D9 O O ?_)|(apply G6;refine G7 (D8 O O) O ?_)|(apply I9;refine J7 (F6 O O) O ?_)|(apply H5;refine c_call O O O (hq0.col h (s.col-1)) O O ?_;rintro _ _ ⟨rfl,hq1⟩))|(apply D6)|(apply F3)|(apply A7)|(refine G5 O ?_;apply I1)|(apply C9)|(apply H9))
  exact I8 _ (by (exact .inl O)) O (fun _ hw=>hw) ⟨O,hq1⟩
 rw[if_neg h1]
 by_cases h2:c=9
 ·rw[if_pos h2]
  subst h2
  have hq0:=hq
  have cN:=fun H=>A45 G H s.st h.st s.col 1 s.w hz.1 hc (by decide)
  obtain⟨gb,gn,gc,ob,on,oc,P,pa,pn,pc,X,E,rfl,hi⟩:=hq
  unfold nextA
  unfold AA1 at cN
  unfold trmC at hq0 ⊢
  generalize nextV s.st s.col.toNat (1:Int).toNat s.w=z at *
  refine I7 Tryz.func106 O O O O O ?_
  repeat' (first|(apply E8;first|(apply A8;refine A9 ?_)|(apply C8;refine D7 O O ?_)|(apply E5;refine F7 O O O ?_;refine F9 O ?_)|(apply D5;refine D9 O O ?_)|(apply H5;refine c_call O O O (hq0.col h z) O O ?_;rintro _ _ ⟨rfl,hq1⟩))|(apply u7;first|(apply Y3;refine Y2 ?_)|(apply Y8;refine j5 O O ?_)|(apply V8;refine Y4 O O ?_;first|refine F4 O ?_ |refine O9 O O ?_)|(apply Y1;refine Z7 O O ?_)|(apply V9;refine X9 (D8 O O) O ?_)|(apply AY5;refine Ad8 (M0 O O O) O ?_)|(apply p8;refine AA0 (F6 O O) O ?_)|(apply AE3;refine V7 O O O (cN _) O O ?_))|(apply D6)|(apply F3)|(apply A7)|(refine G5 O ?_;first|(apply I1)|(apply H7))|(apply C9)|(apply H9)|refine V6 (by kernel_rfl) ?_)
  all_goals exact I8 _ (by (exact .inl O)) O (fun _ hw=>hw) ⟨O,hq1⟩
 rw[if_neg h2]
 by_cases h3:c=10∨c=11∨c=12
 ·rw[if_pos h3]
  have cX:=A90 G tb t K H s h hq
  have hi2:=h.index
  generalize j4 s=s2 at *
  have fin:∀H2,TmQ G tb t s2 K H2→∀Q:Post,True:=fun _ _ _=>trivial
  have key:∀(c':Int) (_:c'=10∨c'=11∨c'=12),SC Tryz.prog G 106 [.pointer (some ⟨tb,0,none⟩),.int .i64 c'] H fun v H'=>v=resV []∧TmQ G tb t (if onA s2 128=true then colA s2 0 else s2) K H':=by
   intro c' hc'
   refine I7 Tryz.func106 O O O O O ?_
   rcases hc' with rfl|rfl|rfl
   all_goals
    repeat' (first|(apply E8;first|(apply A8;refine A9 ?_)|(apply C8;refine D7 O O ?_)|(apply E5;refine F7 O O O ?_;refine F9 O ?_)|(apply D5;refine D9 O O ?_)|(apply H5;refine c_call O O O cX O O ?_;rintro _ _ ⟨rfl,hq1⟩))|(apply D6)|(apply G8)|(apply F3)|((fail_if_success (refine J5 (id:=10) ?_));apply A7)|(refine G5 O ?_;first|(apply I1)|(apply H7))|(apply C9))
    have hq0:=hq1
    obtain⟨gb,gn,gc,ob,on,oc,P,pa,pn,pc,X,E,rfl,hi⟩:=hq1
    have cI:=fun (H:List Ent) (cs:List Value) (b:Bool) (hb:onA s2 128=b)=>AJ1 G H tb 128 (by decide) cs s2.modes hi2.modes b hb
    cases hb:onA s2 128
    ·rw[if_neg (by decide)]
     unfold trmC at hq0 ⊢
     repeat' (first|(apply E8;first|(apply A8;refine A9 ?_)|(apply C8;refine D7 O O ?_)|(apply H5;refine H6 O O O (cI _ _ _ hb inferInstance O) O O ?_))|(apply G8)|(apply A7)|(refine G5 O ?_;apply H7)|(apply C9)|(apply H9))
     exact I8 _ (by (exact .inl O)) O (fun _ hw=>hw) ⟨O,hq0⟩
    ·rw[if_pos rfl]
     unfold trmC at hq0 ⊢
     repeat' (first|(apply E8;first|(apply A8;refine A9 ?_)|(apply C8;refine D7 O O ?_)|(apply H5;first|refine H6 O O O (cI _ _ _ hb inferInstance O) O O ?_ |(refine c_call O O O (hq0.col hi2 0) O O ?_;rintro _ _ ⟨rfl,hq2⟩)))|(apply A7)|(refine G5 O ?_;apply I1)|(apply C9)|(apply H9))
     exact I8 _ (by (exact .inl O)) O (fun _ hw=>hw) ⟨O,hq2⟩
  exact key c h3
 rw[if_neg h3]
 by_cases h4:c=13
 ·rw[if_pos h4]
  subst h4
  have hq0:=hq
  obtain⟨gb,gn,gc,ob,on,oc,P,pa,pn,pc,X,E,rfl,hi⟩:=hq
  unfold trmC at hq0 ⊢
  refine I7 Tryz.func106 O O O O O ?_
  repeat' (first|(apply E8;first|(apply A8;refine A9 ?_)|(apply C8;refine D7 O O ?_)|(apply E5;refine F7 O O O ?_;refine F9 O ?_)|(apply D5;refine D9 O O ?_)|(apply H5;refine c_call O O O (hq0.col h 0) O O ?_;rintro _ _ ⟨rfl,hq1⟩))|(apply D6)|(apply F3)|(apply A7)|(refine G5 O ?_;first|(apply I1)|(apply H7))|(apply C9)|(apply H9))
  exact I8 _ (by (exact .inl O)) O (fun _ hw=>hw) ⟨O,hq1⟩
 rw[if_neg h4]
 by_cases h5:c=14
 ·rw[if_pos h5]
  subst h5
  refine hq.blk O O O fun ga gn gc oa on oc pa pn pc H=>?_
  unfold trmC
  refine I7 Tryz.func106 O O O O O ?_
  repeat' (first|(apply E8;first|(apply A8;refine A9 ?_)|(apply C8;refine D7 O O ?_)|(apply E5;refine F7 O O O ?_;refine F9 O ?_)|(apply D5;refine D9 O O ?_)|(apply G6;refine G7 (D8 O O) O ?_)|(apply I9;refine J7 (F6 O O) O ?_)|(apply H8;refine M9 O O O O O O O ?_))|(apply D6)|(apply F3)|(apply A7)|(refine G5 O ?_;first|(apply I1)|(apply H7))|(apply C9)|(apply H9))
  exact I8 _ (by (exact .inl O)) O (fun _ hw=>hw) ⟨O,O⟩
 rw[if_neg h5]
 by_cases h6:c=15
 ·rw[if_pos h6]
  subst h6
  refine hq.blk O O O fun ga gn gc oa on oc pa pn pc H=>?_
  unfold trmC
  refine I7 Tryz.func106 O O O O O ?_
  repeat' (first|(apply E8;first|(apply A8;refine A9 ?_)|(apply C8;refine D7 O O ?_)|(apply E5;refine F7 O O O ?_;refine F9 O ?_)|(apply D5;refine D9 O O ?_)|(apply G6;refine G7 (D8 O O) O ?_)|(apply I9;refine J7 (F6 O O) O ?_)|(apply H8;refine M9 O O O O O O O ?_))|(apply D6)|(apply F3)|(apply A7)|(refine G5 O ?_;first|(apply I1)|(apply H7))|(apply C9)|(apply H9))
  exact I8 _ (by (exact .inl O)) O (fun _ hw=>hw) ⟨O,O⟩
 rw[if_neg h6]
 have fin:=hq
 refine I7 Tryz.func106 O O O O O ?_
 repeat' (first|(apply E8;first|(apply A8;refine A9 ?_)|(apply C8;refine D7 O O ?_)|(apply E5;refine F7 O O O ?_;refine F9 O ?_)|(apply D5;refine D9 O O ?_))|(apply D6)|(apply G8)|(apply F3)|(apply A7)|(refine G5 O ?_;apply E9<;>intro hq<;>(try (exfalso;omega)))|(apply C9)|(apply H9))
 all_goals exact I8 _ (by (exact .inl O)) O (fun _ hw=>hw) ⟨O,fin⟩
theorem B64 (K H:List Ent) (s:Scr) (h:OkS s) (hq:TmQ G tb t s K H):SC Tryz.prog G 164 [.pointer (some ⟨tb,0,none⟩)] H fun v H'=>v=resV []∧TmQ G tb t (newS s.w s.h) K H':=by
 have hz:=h.g.size
 have hgl:=(AU2 hz).g.len
 have hol:=(AU2 hz).o.len
 have hpos:0<s.w * s.h:=Nat.mul_pos (by omega) (by omega)
 have cN:=fun H=>BM3 G H s.w s.h hz.1 hz.2
 obtain⟨gb,gn,gc,ob,on,oc,P,pa,pn,pc,X,E,rfl,hi⟩:=hq
 unfold trmC
 refine Z0 Tryz.func164 O O O O O ?_
 refine AE0 19 _ (.own 97 4 (some ⟨gb,0,none⟩) gn gc (qds s.C):: .own 97 4 (some ⟨ob,0,none⟩) on oc (qds s.D)::P::(E++K)) (fun _ hw=>hw) O ?_
 repeat' (first|(apply E8;first|(apply A8;refine A9 ?_)|(apply H5;refine c_call O O O (cN _) O O ?_;rintro _ _ ⟨g2,o2,c2,hc2,rfl,rfl⟩)|(apply H8;refine AF4 (off:=0) O O O O O O (Nat.le_of_ble_eq_true O) (show over _ 0 _=trmC (newS s.w s.h) (some ⟨g2,0,none⟩) (s.w * s.h) (s.w * s.h) (some ⟨o2,0,none⟩) (s.w * s.h) c2 none 0 0 t from rfl) O ?_))|(apply Q0;refine N8 (k:=0) J3 ?_)|(apply AN7;refine AK7 (k:=0) J3 ?_)|(apply U3;first|(refine L8 O ?_)|(refine N9 (by decide+kernel) ?_))|(apply AL2;first|(refine AH9 O ?_)|(refine AC5 O O O O (by kernel_rfl) (by decide+kernel) (by decide+kernel) (by decide+kernel) ?_;first|(apply O1;refine G9 (P9 O O) ?_)|(apply R9;refine R6 O ?_;refine F4 O ?_)|(apply M3;refine G9 (D8 O O) ?_)|(apply AG3;refine G9 (M0 O O O) ?_)|(apply R5;refine G9 (F6 O O) ?_))|(refine AR7 O O O O (by kernel_rfl) (by decide+kernel) (by decide+kernel) O J3 ?_;apply AG3;refine G9 (M0 O O O) ?_)|(refine AC9 O ?_)|(refine AE2 (by kernel_rfl) ?_))|(apply AL3;first|(refine AE1 O)|(refine AH6 (by decide+kernel) ?_)|(refine AH3 O O ?_ ?_)|(refine AK8 O O ?_ ?_)))
 all_goals
  exact I8 (.blk tb 158 (trmC (newS s.w s.h) (some ⟨g2,0,none⟩) (s.w * s.h) (s.w * s.h) (some ⟨o2,0,none⟩) (s.w * s.h) c2 none 0 0 t):: .own 97 4 (some ⟨g2,0,none⟩) (s.w * s.h) (s.w * s.h) (qds (newS s.w s.h).C):: .own 97 4 (some ⟨o2,0,none⟩) (s.w * s.h) c2 (qds (newS s.w s.h).D):: .own 119 1 none 0 0 []::(E++K)) (.inl O) O (fun w hw=>(hw.nilrow 119 1).subs (by repeat (first|refine Subs.cons (by repeat constructor) ?_ |exact Subs.sub O0))) ⟨O,g2,s.w * s.h,s.w * s.h,o2,s.w * s.h,c2,_,none,0,0,[],E,O,RowE.own none 0 0 [],RdX.nil,O,hgl.symm,Nat.le_refl _,hol.symm,hc2,O⟩
end
theorem By1 {ty:IntKind} {c:Int} (h1:c≠66) (h2:c≠48) (h3:c≠65):Instr.findNow (.int ty) (.int .i64 c) [⟨.int .i64 66,.int .i64 1,0⟩,⟨.int .i64 48,.int .i64 3,1⟩,⟨.int .i64 65,.int .i64 4,2⟩] 0=some none:=by
 have e:∀d:Int,c≠d→Instr.sameNow (.int ty) (.int .i64 c) (.int .i64 d)=some false:=fun d hd=>by
  show (if IntKind.i64=IntKind.i64 then some (c==d) else none)=some false
  rw[if_pos rfl,beq_eq_false_iff_ne.2 hd]
 unfold Instr.findNow
 rw[e 66 h1]
 unfold Instr.findNow
 rw[e 48 h2]
 unfold Instr.findNow
 rw[e 65 h3]
 rfl
section
attribute [local irreducible] SW SL SQ AtQ SV SC BB LD PK Yields SO SOT SOA SY SP SPT SPA
variable (G:Ctx) (tb:Nat) (t:ByteArray)
theorem escQ (K H:List Ent) (s:Scr) (h:OkS s) (hq:TmQ G tb t s K H) (c:Int):SC Tryz.prog G 107 [.pointer (some ⟨tb,0,none⟩),.int .i64 c] H fun v H'=>v=resV []∧TmQ G tb t (escA s c) K H':=by
 have hz:=h.g.size
 have hc:=h.col
 unfold escA
 by_cases h1:c=68
 ·rw[if_pos h1];subst h1
  refine I7 Tryz.func107 O O O O O ?_
  repeat' (first|(apply E8;first|(apply A8;refine A9 ?_)|(apply C8;refine D7 O O ?_)|(apply E5;refine F7 O O O ?_;refine F9 O ?_)|(apply D5;refine D9 O O ?_)|(apply H5;refine c_call O O O (A90 G tb t K _ s h hq) O O ?_;rintro _ _ ⟨rfl,hq1⟩))|(apply D6)|(apply F3)|(apply A7)|(refine G5 O ?_;apply I1)|(apply C9)|(apply H9))
  exact I8 _ (by (exact .inl O)) O (fun _ hw=>hw) ⟨O,hq1⟩
 rw[if_neg h1]
 by_cases h2:c=69
 ·rw[if_pos h2];subst h2
  refine I7 Tryz.func107 O O O O O ?_
  repeat' (first|(apply E8;first|(apply A8;refine A9 ?_)|(apply C8;refine D7 O O ?_)|(apply E5;refine F7 O O O ?_;refine F9 O ?_)|(apply D5;refine D9 O O ?_)|(apply H5;first|(refine c_call O O O (hq.col h 0) O O ?_;rintro _ _ ⟨rfl,hq1⟩)|(refine c_call O O O (A54 hq1 h) O O ?_;rintro _ _ ⟨rfl,hq2⟩)))|(apply D6)|(apply F3)|(apply A7)|(refine G5 O ?_;first|(apply I1)|(apply H7))|(apply C9)|(apply H9))
  exact I8 _ (by (exact .inl O)) O (fun _ hw=>hw) ⟨O,hq2⟩
 rw[if_neg h2]
 by_cases h3:c=77
 ·rw[if_pos h3];subst h3
  refine I7 Tryz.func107 O O O O O ?_
  repeat' (first|(apply E8;first|(apply A8;refine A9 ?_)|(apply C8;refine D7 O O ?_)|(apply E5;refine F7 O O O ?_;refine F9 O ?_)|(apply D5;refine D9 O O ?_)|(apply H5;refine c_call O O O (revQ G tb t K _ s h hq) O O ?_;rintro _ _ ⟨rfl,hq1⟩))|(apply D6)|(apply F3)|(apply A7)|(refine G5 O ?_;first|(apply I1)|(apply H7))|(apply C9)|(apply H9))
  exact I8 _ (by (exact .inl O)) O (fun _ hw=>hw) ⟨O,hq1⟩
 rw[if_neg h3]
 by_cases h4:c=72
 ·rw[if_pos h4];subst h4
  refine hq.blk O O O fun ga gn gc oa on oc pa pn pc H=>?_
  have cS:=fun H=>Ai4 G H s.st h.st s.col.toNat true (by omega)
  rw[Int.toNat_of_nonneg hc.1] at cS
  generalize AJ9 s.st s.col.toNat true=z at *
  unfold AA1 at cS
  unfold trmC
  refine I7 Tryz.func107 O O O O O ?_
  repeat' (first|(apply E8;first|(apply A8;refine A9 ?_)|(apply C8;refine D7 O O ?_)|(apply E5;refine F7 O O O ?_;refine F9 O ?_)|(apply D5;refine D9 O O ?_))|(apply D6)|(apply F3)|((fail_if_success (refine J5 (id:=9) ?_));apply A7)|(refine G5 O ?_;first|(apply I1)|(apply H7))|(apply C9))
  refine AE0 18 _ H (fun _ hw=>hw) O ?_
  repeat' (first|(apply E8;first|(apply A8;refine A9 ?_)|(apply H5;refine H6 O O O (cS _) O O ?_)|(apply H8;refine AH2 O O O O O O O O O ?_))|(apply Q0;refine N8 (k:=0) J3 ?_)|(apply AN7;refine AK7 (k:=0) J3 ?_)|(apply U3;first|(refine L8 O ?_)|(refine N9 (by decide+kernel) ?_))|(apply AL2;first|(refine AH9 O ?_)|(refine AC5 O O O O (by kernel_rfl) (by decide+kernel) (by decide+kernel) (by decide+kernel) ?_;first|(apply O1;refine G9 (P9 O O) ?_)|(apply R9;refine R6 O ?_;first|refine F4 O ?_ |refine O9 O O ?_)|(apply M3;refine G9 (D8 O O) ?_)|(apply AG3;refine G9 (M0 O O O) ?_)|(apply R5;refine G9 (F6 O O) ?_))|(refine AR7 O O O O (by kernel_rfl) (by decide+kernel) (by decide+kernel) O J3 ?_;apply AG3;refine G9 (M0 O O O) ?_)|(refine AC9 O ?_)|(refine AE2 (by kernel_rfl) ?_))|(apply AL3;first|(refine AE1 O)|(refine AH6 (by decide+kernel) ?_)|(refine AH3 O O ?_ ?_)|(refine AK8 O O ?_ ?_))|(apply H9))
  all_goals exact I8 _ (by (exact .inl O)) O (fun _ hw=>hw) ⟨O,O⟩
 rw[if_neg h4]
 by_cases h5:c=55
 ·rw[if_pos h5];subst h5
  refine hq.blk O O O fun ga gn gc oa on oc pa pn pc H=>?_
  have cS:=fun H=>Ax2 G H s tb ga gn gc oa on oc pa pn pc t h
  refine I7 Tryz.func107 O O O O O ?_
  repeat' (first|(apply E8;first|(apply A8;refine A9 ?_)|(apply C8;refine D7 O O ?_)|(apply E5;refine F7 O O O ?_;refine F9 O ?_)|(apply D5;refine D9 O O ?_)|(apply H5;refine c_call O O O (cS _) O O ?_;rintro _ _ ⟨rfl,rfl⟩))|(apply D6)|(apply F3)|(apply A7)|(refine G5 O ?_;first|(apply I1)|(apply H7))|(apply C9)|(apply H9))
  exact I8 _ (by (exact .inl O)) O (fun _ hw=>hw) ⟨O,O⟩
 rw[if_neg h5]
 by_cases h6:c=56
 ·rw[if_pos h6];subst h6
  refine hq.blk O O O fun ga gn gc oa on oc pa pn pc H=>?_
  have cS:=fun H=>Ax1 G H s tb ga gn gc oa on oc pa pn pc t h
  refine I7 Tryz.func107 O O O O O ?_
  repeat' (first|(apply E8;first|(apply A8;refine A9 ?_)|(apply C8;refine D7 O O ?_)|(apply E5;refine F7 O O O ?_;refine F9 O ?_)|(apply D5;refine D9 O O ?_)|(apply H5;refine c_call O O O (cS _) O O ?_;rintro _ _ ⟨rfl,rfl⟩))|(apply D6)|(apply F3)|(apply A7)|(refine G5 O ?_;first|(apply I1)|(apply H7))|(apply C9)|(apply H9))
  exact I8 _ (by (exact .inl O)) O (fun _ hw=>hw) ⟨O,O⟩
 rw[if_neg h6]
 by_cases h7:c=61∨c=62
 ·rw[if_pos h7]
  refine hq.blk O O O fun ga gn gc oa on oc pa pn pc H=>?_
  have cS:=fun H on'=>As4 G H s 32 on' tb ga gn gc oa on oc pa pn pc t h.modes (by decide)
  refine I7 Tryz.func107 O O O O O ?_
  rcases h7 with rfl|rfl
  all_goals
   repeat' (first|(apply E8;first|(apply A8;refine A9 ?_)|(apply C8;refine D7 O O ?_)|(apply E5;refine F7 O O O ?_;refine F9 O ?_)|(apply D5;refine D9 O O ?_)|(apply H5;refine c_call O O O (cS _ _) O O ?_;rintro _ _ ⟨rfl,rfl⟩))|(apply D6)|(apply G8)|(apply F3)|(apply A7)|(refine G5 O ?_;first|(apply I1)|(apply H7))|(apply C9)|(apply H9))
   exact I8 _ (by (exact .inl O)) O (fun _ hw=>hw) ⟨O,O⟩
 rw[if_neg h7]
 by_cases h8:c=99
 ·rw[if_pos h8];subst h8
  refine I7 Tryz.func107 O O O O O ?_
  repeat' (first|(apply E8;first|(apply A8;refine A9 ?_)|(apply C8;refine D7 O O ?_)|(apply E5;refine F7 O O O ?_;refine F9 O ?_)|(apply D5;refine D9 O O ?_)|(apply H5;refine c_call O O O (B64 G tb t K _ s h hq) O O ?_;rintro _ _ ⟨rfl,hq1⟩))|(apply D6)|(apply F3)|(apply A7)|(refine G5 O ?_;first|(apply I1)|(apply H7))|(apply C9)|(apply H9))
  exact I8 _ (by (exact .inl O)) O (fun _ hw=>hw) ⟨O,hq1⟩
 rw[if_neg h8]
 have fin:=hq
 refine I7 Tryz.func107 O O O O O ?_
 repeat' (first|(apply E8;first|(apply A8;refine A9 ?_)|(apply C8;refine D7 O O ?_)|(apply E5;refine F7 O O O ?_;refine F9 O ?_)|(apply D5;refine D9 O O ?_))|(apply D6)|(apply G8)|(apply F3)|(apply A7)|(refine G5 O ?_;apply E9<;>intro hq<;>(try (exfalso;omega)))|(apply C9)|(apply H9))
 all_goals exact I8 _ (by (exact .inl O)) O (fun _ hw=>hw) ⟨O,fin⟩
theorem BQ0 (H:List Ent) (i:ByteArray) (c:Int) (p:Value) (h1:i≠⟨#[40]⟩) (h2:i≠⟨#[41]⟩) (h3:i≠⟨#[35]⟩∨c≠56):SC Tryz.prog G 108 [p,.string i,.int .i64 c] H fun v H'=>v=resV []∧H'=H:=by
 have d1:decide (i=(⟨#[40]⟩:ByteArray))=false:=decide_eq_false h1
 have d2:decide (i=(⟨#[41]⟩:ByteArray))=false:=decide_eq_false h2
 by_cases h4:i=⟨#[35]⟩
 ·have h5:c≠56:=h3.resolve_left fun h=>h h4
  have d3:decide (i=(⟨#[35]⟩:ByteArray))=true:=decide_eq_true h4
  refine U4 Tryz.func108 O O O O O ?_
  repeat' (first|(apply E8;first|(apply A8;refine A9 ?_)|(apply C8;refine D7 O O ?_)|(apply E5;refine F7 O O O ?_;first|(refine AB9 ?_;first|rw[d1]|rw[d2]|rw[d3])|(refine F9 O ?_))|(apply D5;refine D9 O O ?_))|(apply D6)|(apply G8)|(apply F3)|(apply A7)|(refine G5 O ?_;first|(apply I1)|(apply H7)|(apply E9<;>intro hq<;>(try (exfalso;omega))))|(apply C9)|(apply H9))
  all_goals exact I8 _ (by (exact .inl O)) O (fun _ hw=>hw) ⟨O,O⟩
 ·have d3:decide (i=(⟨#[35]⟩:ByteArray))=false:=decide_eq_false h4
  refine U4 Tryz.func108 O O O O O ?_
  repeat' (first|(apply E8;first|(apply A8;refine A9 ?_)|(apply C8;refine D7 O O ?_)|(apply E5;refine F7 O O O ?_;refine AB9 ?_;first|rw[d1]|rw[d2]|rw[d3])|(apply D5;refine D9 O O ?_))|(apply D6)|(apply G8)|(apply F3)|(apply A7)|(refine G5 O ?_;apply H7)|(apply C9)|(apply H9))
  all_goals exact I8 _ (by (exact .inl O)) O (fun _ hw=>hw) ⟨O,O⟩
theorem BI0 (H:List Ent) (i:ByteArray) (c:Int) (p:Value) (h1:i=⟨#[40]⟩∨i=⟨#[41]⟩) (hc:AC2 c=0):SC Tryz.prog G 108 [p,.string i,.int .i64 c] H fun v H'=>v=resV []∧H'=H:=by
 have hc:c≠66∧c≠48∧c≠65:=by
  unfold AC2 at hc
  refine⟨fun h=>?_,fun h=>?_,fun h=>?_⟩<;>(subst h;cases hc)
 have hf:=fun ty=>By1 (ty:=ty) hc.1 hc.2.1 hc.2.2
 rcases h1 with rfl|rfl
 all_goals
  refine U4 Tryz.func108 O O O O O ?_
  repeat' (first|(apply E8;first|(apply A8;refine A9 ?_)|(apply C8;refine D7 O O ?_)|(apply E5;refine F7 O O O ?_;refine AB9 ?_)|(apply D5;refine D9 O O ?_)|(apply U7;refine X7 (M0 O O O) O ?_)|(first|(refine Ad6 O O O O (fun _=>?_))|(refine Al5 O O O O O O O ?_)|(refine AA2 O (BC9 O O O (hf _) (show still Tryz.prog (zeroValue 3)=some (.int .i64 0) by kernel_rfl)) O O ?_)))|(apply D6)|(apply G8)|(apply F3)|(apply A7)|(refine G5 O ?_;first|(apply I1)|(apply H7))|(apply C9)|(apply H9))
  all_goals exact I8 H (by (exact .inl O)) O J3 ⟨O,O⟩
theorem BG5 (H:List Ent) (s:Scr) (ga:Option Addr) (gn gc:Nat) (oa:Option Addr) (on oc:Nat) (pa:Option Addr) (pn pc:Nat) (c:Int) (hc:AC2 c≠0) (i:ByteArray) (s':Scr) (hi:(i=⟨#[40]⟩∧s'={s with p0:=AC2 c})∨(i=⟨#[41]⟩∧s'={s with p1:=AC2 c})):SC Tryz.prog G 108 [.pointer (some ⟨tb,0,none⟩),.string i,.int .i64 c] (.blk tb 158 (trmC s ga gn gc oa on oc pa pn pc t)::H) fun v H'=>v=resV []∧H'= .blk tb 158 (trmC s' ga gn gc oa on oc pa pn pc t)::H:=by
 have hc:c=66∨c=48∨c=65:=by
  unfold AC2 at hc
  by_cases h1:c=66
  ·exact .inl h1
  by_cases h2:c=48
  ·exact .inr (.inl h2)
  by_cases h3:c=65
  ·exact .inr (.inr h3)
  rw[if_neg h1,if_neg h2,if_neg h3] at hc
  exact absurd O hc
 rcases hi with ⟨rfl,rfl⟩|⟨rfl,rfl⟩
 all_goals
  rcases hc with rfl|rfl|rfl
  all_goals
   unfold trmC
   refine U4 Tryz.func108 O O O O O ?_
   repeat' (first|(apply E8;first|(apply A8;refine A9 ?_)|(apply C8;refine D7 O O ?_)|(apply E5;refine F7 O O O ?_;refine AB9 ?_)|(apply D5;refine D9 O O ?_)|(apply U7;refine X7 (M0 O O O) O ?_)|(first|(refine Ad6 O O O O (fun _=>?_))|(refine Al5 O O O O O O O ?_)|(refine AA2 O (A78 O O O O) O O ?_)))|(apply D6)|(apply G8)|(apply F3)|((fail_if_success (refine J5 (id:=6) ?_));apply A7)|(refine G5 O ?_;first|(apply I1)|(apply H7))|(apply C9))
   repeat' (first|(apply E8;first|(apply A8;refine A9 ?_)|(apply H8;refine M9 O O O O O O O ?_))|(apply Q0;refine N8 (k:=0) J3 ?_)|(apply U3;first|(refine L8 O ?_)|(refine O4 O O O O (by kernel_rfl) (by decide+kernel) (by decide+kernel) ?_;first|(apply O1;refine G9 (P9 O O) ?_)|(apply AG6;refine AG7 O O ?_;apply U8;refine F9 O ?_)|(apply M3;refine G9 (D8 O O) ?_)|(apply Bh8;refine G9 (AT5 O O O (by omega) O) ?_)|(apply AF3;refine G9 (l7 O O O (by decide+kernel) (by decide+kernel)) ?_)|(apply R5;refine G9 (F6 O O) ?_))|(refine O5 O ?_)|(refine N9 (by decide+kernel) ?_)|(refine Q6 (by kernel_rfl) ?_))|(apply V3;first|(refine Q5 O)|(refine U1 (by decide+kernel) ?_)|(refine Q3 O ?_ ?_))|(apply H9)|(refine J5 (id:=6) ?_;refine q8 (b:=tb) ?_))
   all_goals exact I8 (.blk tb 158 _::H) (by (exact .inl O)) O J3 ⟨O,O⟩
theorem Bh4 (K:List Ent) (s:Scr) (h:OkS s) (gb gn gc:Nat) (oa:Option Addr) (on oc:Nat) (pa:Option Addr) (pn pc:Nat) (hgn:gn=s.C.length) (hgc:gn≤gc):SC Tryz.prog G 108 [.pointer (some ⟨tb,0,none⟩),.string ⟨#[35]⟩,.int .i64 56] (.blk tb 158 (trmC s (some ⟨gb,0,none⟩) gn gc oa on oc pa pn pc t):: .own 97 4 (some ⟨gb,0,none⟩) gn gc (qds s.C)::K) fun v H'=>v=resV []∧H'= .blk tb 158 (trmC (eeA s) (some ⟨gb,0,none⟩) gn gc oa on oc pa pn pc t):: .own 97 4 (some ⟨gb,0,none⟩) gn gc (qds (eeA s).C)::K:=by
 have hz:=h.g.size
 have hl1:=h.g.len1
 have cC:=fun H=>AP0 G H {s with C:=List.replicate s.C.length (69,0,0,0),row:=0,top:=0,bot:=s.h} 0 tb (some ⟨gb,0,none⟩) gn gc oa on oc pa pn pc t (by show s.w≤1000;omega)
 have hfin:∀H:List Ent,.blk tb 158 (trmC (eeA s) (some ⟨gb,0,none⟩) gn gc oa on oc pa pn pc t):: .own 97 4 (some ⟨gb,0,none⟩) gn gc (qds (eeA s).C)::H= .blk tb 158 (trmC (eeA s) (some ⟨gb,0,none⟩) gn gc oa on oc pa pn pc t):: .own 97 4 (some ⟨gb,0,none⟩) gn gc (qds (List.replicate gn ((69,0,0,0):Qd)))::H:=fun H=>by rw[hgn];rfl
 rw[hfin]
 clear hfin
 have hR:∀H,SC Tryz.prog G 152 [.pointer (some ⟨tb,0,none⟩),.int .i64 0] (.blk tb 158 (trmC {s with C:=List.replicate s.C.length (69,0,0,0),row:=0,top:=0,bot:=s.h} (some ⟨gb,0,none⟩) gn gc oa on oc pa pn pc t)::H) fun v H'=>v=resV []∧H'= .blk tb 158 (trmC (eeA s) (some ⟨gb,0,none⟩) gn gc oa on oc pa pn pc t)::H:=cC
 clear cC
 generalize trmC (eeA s) (some ⟨gb,0,none⟩) gn gc oa on oc pa pn pc t=cs2 at *
 have hxl:∀j,j≤gn→(List.replicate j ((69,0,0,0):Qd)++s.C.drop j).length=gn:=fun j hj=>by
  rw[List.length_append,List.length_replicate,List.length_drop];omega
 have hset:∀j,j<gn→(List.replicate j ((69,0,0,0):Qd)++s.C.drop j).set j (69,0,0,0)=List.replicate (j+1) (69,0,0,0)++s.C.drop (j+1):=fun j hj=>by
  rw[List.set_append_right _ _ (by rw[List.length_replicate];exact Nat.le_refl _),List.length_replicate,Nat.sub_self,List.drop_eq_getElem_cons (by omega),List.set_cons_zero,List.replicate_succ',List.append_assoc]
  rfl
 have h0:List.replicate 0 ((69,0,0,0):Qd)++s.C.drop 0=s.C:=rfl
 have h1:List.replicate gn ((69,0,0,0):Qd)++s.C.drop gn=List.replicate gn (69,0,0,0):=by
  rw[List.drop_eq_nil_of_le (by omega),List.append_nil]
 generalize hF:(fun j=>List.replicate j ((69,0,0,0):Qd)++s.C.drop j)=F
 have eF:∀j,List.replicate j ((69,0,0,0):Qd)++s.C.drop j=F j:=fun j=>congrFun hF j
 simp only[eF] at hxl hset h0 h1
 rw[←h0,←h1]
 clear h0 h1 eF hF
 have hmg:gn≤100000:=by omega
 clear hgn hl1
 unfold trmC at hR ⊢
 dsimp only at hR
 refine U4 Tryz.func108 O O O O O ?_
 repeat' (first|(apply E8;first|(apply A8;refine A9 ?_)|(apply C8;refine D7 O O ?_)|(apply E5;refine F7 O O O ?_;first|(refine AB9 ?_)|(refine F9 O ?_))|(apply F5;refine F8 O O ?_;refine F4 O ?_)|(apply D5;refine D9 O O ?_)|(apply G6;refine G7 (D8 O O) O ?_)|(apply I9;refine J7 (F6 O O) O ?_)|(apply K5;refine s_call (S9 O O) O ?_))|(apply D6)|(apply F3)|((fail_if_success (refine J5 (id:=10) ?_));apply A7)|(refine G5 O ?_;first|(apply I1)|(apply H7))|(apply C9))
 refine R7 (α:=Nat) (fun j=>[(0,.pointer (some ⟨tb,0,none⟩)),(42,.int .i64 gn),(43,.int .i64 j)]) (fun j=> .own 97 4 (some ⟨gb,0,none⟩) gn gc (qds (F j)):: .blk tb 158 (trmC s (some ⟨gb,0,none⟩) gn gc oa on oc pa pn pc t)::K)
  (fun j=>j≤gn) (fun j=>gn-j) 0 (Nat.zero_le _) Q7 (by unfold trmC;exact J3) ?_
 intro j hj
 have hlj:(qds (F j)).length=gn * 4:=by rw[X6,hxl j hj]
 by_cases hlt:(j:Int)<gn
 ·have o1:over (qds (F j)) ((j:Int).toNat * 4) (qd (69,0,0,0))=qds (F (j+1)):=by
   rw[Int.toNat_natCast,A20 (69,0,0,0) (by rw[hxl j hj];omega),hset j (by omega)]
  have l1:(j:Int).toNat * 4+4≤(qds (F j)).length:=by omega
  clear hset hxl hR
  generalize qds (F j)=q1 at *
  unfold trmC
  repeat' (first|(apply E8;first|(apply A8;refine A9 ?_)|(apply C8;refine D7 O O ?_)|(apply E5;refine F7 O O O ?_;first|(apply K9;refine L6 ⟨by omega,by omega⟩ ?_)|refine F9 O ?_)|(apply F5;refine F8 O O ?_;refine F4 O ?_)|(apply D5;refine D9 O O ?_)|(apply G6;refine G7 (D8 O O) O ?_)|(apply U0;refine U6 (Q9 O O O) O ?_)|(apply M4;refine M8 (K7 O O O hlj (by omega) (by omega)) O ?_)|(apply I9;refine J7 (F6 O O) O ?_)|(apply H8;refine Au1 (vs:=qd (69,0,0,0)) O O O O O O (Nat.zero_lt_succ 3) l1 O ?_;rw[o1]))|(apply D6)|(apply G8)|(apply F3)|(apply A7)|(refine G5 O ?_;apply E9<;>intro hq<;>(try (exfalso;omega)))|(apply C9)|(apply H9))
  exact J6 (j+1) ⟨by omega,by omega⟩ Q7 J3
 ·obtain rfl:j=gn:=by omega
  clear hset hxl
  generalize qds (F j)=q1 at *
  unfold trmC
  repeat' (first|(apply E8;first|(apply A8;refine A9 ?_)|(apply C8;refine D7 O O ?_)|(apply E5;refine F7 O O O ?_;refine F9 O ?_)|(apply F5;refine F8 O O ?_;refine F4 O ?_)|(apply G6;refine G7 (D8 O O) O ?_)|(apply I9;refine J7 (F6 O O) O ?_)|(apply H5;refine c_call O O O (hR _) O O ?_;rintro _ _ ⟨rfl,rfl⟩)|(apply H8;refine M9 O O O O O O O ?_))|(apply D6)|(apply O7)|(apply A7)|(refine G5 O ?_;apply E9<;>intro hq<;>(try (exfalso;omega)))|(apply C9)|(apply K3)|(apply H9)|(apply K4))
  exact I8 (.blk tb 158 cs2:: .own 97 4 (some ⟨gb,0,none⟩) j gc q1::K) (by (exact .inl O)) O J3 ⟨O,O⟩
theorem pageQ (K H:List Ent) (s:Scr) (h:OkS s) (hq:TmQ G tb t s K H) (i:ByteArray) (c:Int):SC Tryz.prog G 108 [.pointer (some ⟨tb,0,none⟩),.string i,.int .i64 c] H fun v H'=>v=resV []∧TmQ G tb t (pageA s i c) K H':=by
 have stay:∀(i:ByteArray),(SC Tryz.prog G 108 [.pointer (some ⟨tb,0,none⟩),.string i,.int .i64 c] H fun v H'=>v=resV []∧H'=H)→SC Tryz.prog G 108 [.pointer (some ⟨tb,0,none⟩),.string i,.int .i64 c] H fun v H'=>v=resV []∧TmQ G tb t s K H':=fun i h=>AA7 h fun v H' ⟨e1,e2⟩=>⟨e1,by rw[e2];exact hq⟩
 unfold pageA
 by_cases h1:i=⟨#[40]⟩
 ·rw[if_pos h1]
  by_cases hp:AC2 c=0
  ·rw[if_pos hp]
   exact stay i (BI0 G H i c _ (.inl h1) hp)
  ·rw[if_neg hp]
   exact hq.blk O O O fun ga gn gc oa on oc pa pn pc H=>BG5 G tb t H s ga gn gc oa on oc pa pn pc c hp i _ (.inl ⟨h1,O⟩)
 rw[if_neg h1]
 by_cases h2:i=⟨#[41]⟩
 ·rw[if_pos h2]
  by_cases hp:AC2 c=0
  ·rw[if_pos hp]
   exact stay i (BI0 G H i c _ (.inr h2) hp)
  ·rw[if_neg hp]
   exact hq.blk O O O fun ga gn gc oa on oc pa pn pc H=>BG5 G tb t H s ga gn gc oa on oc pa pn pc c hp i _ (.inr ⟨h2,O⟩)
 rw[if_neg h2]
 by_cases h3:i=⟨#[35]⟩∧c=56
 ·rw[if_pos h3]
  obtain⟨rfl,rfl⟩:=h3
  exact hq.grid (by show (List.replicate s.C.length ((69,0,0,0):Qd)).length=s.C.length;rw[List.length_replicate]) O O fun gb gn gc oa on oc pa pn pc H hgn hgc=>Bh4 G tb t H s h gb gn gc oa on oc pa pn pc hgn hgc
 ·rw[if_neg h3]
  exact stay i (BQ0 G H i c _ h1 h2 (by
   by_cases h4:i=⟨#[35]⟩
   ·exact .inr fun h5=>h3 ⟨h4,h5⟩
   ·exact .inl h4))
end
theorem TmQ.push {G:Ctx} {tb:Nat} {t:ByteArray} {s:Scr} {K H:List Ent} (h:TmQ G tb t s K H) (x:Ent):∃H2,(x::H).Perm H2∧TmQ G tb t s (x::K) H2:=by
 obtain⟨gb,gn,gc,ob,on,oc,P,pa,pn,pc,X,E,rfl,hi⟩:=h
 exact⟨_,(List.perm_middle (l₁:= .blk tb 158 (trmC s (some ⟨gb,0,none⟩) gn gc (some ⟨ob,0,none⟩) on oc pa pn pc t):: .own 97 4 (some ⟨gb,0,none⟩) gn gc (qds s.C):: .own 97 4 (some ⟨ob,0,none⟩) on oc (qds s.D)::P::E)).symm,gb,gn,gc,ob,on,oc,P,pa,pn,pc,X,E,O,hi⟩
theorem TmQ.has {G:Ctx} {tb:Nat} {t:ByteArray} {s:Scr} {K H:List Ent} (h:TmQ G tb t s K H) {x:Ent} (hx:x∈K):x∈H:=by
 obtain⟨gb,gn,gc,ob,on,oc,P,pa,pn,pc,X,E,rfl,hi⟩:=h
 simp [hx]
theorem TmQ.hasB {G:Ctx} {tb:Nat} {t:ByteArray} {s:Scr} {K H:List Ent} (h:TmQ G tb t s K H) {b:Nat} {ty:TypeId} {cs:List Value} (hx:HasBlk K b ty cs):HasBlk H b ty cs:=⟨h.has hx.here⟩
theorem TmQ.rd {G:Ctx} {tb:Nat} {t:ByteArray} {s:Scr} {K H:List Ent} (h:TmQ G tb t s K H):∀w,Holds G H w→Holds G K w:=by
 obtain⟨gb,gn,gc,ob,on,oc,P,pa,pn,pc,X,E,rfl,hi⟩:=h
 exact fun w hw=>hw.sub (.cons _ (.cons _ (.cons _ (.cons _ (List.sublist_append_right E K)))))
section
variable {G:Ctx} {tb:Nat} {t:ByteArray} {s:Scr} {K H:List Ent}
theorem TmQ.up (hq:TmQ G tb t s K H) (h:OkS s) (n:Int) (hn: -20000≤n∧n≤20000):SC Tryz.prog G 212 [.pointer (some ⟨tb,0,none⟩),.int .i64 n] H fun v H'=>v=resV []∧TmQ G tb t (upA s n) K H':=
 hq.blk rfl rfl rfl fun ga gn gc oa on oc pa pn pc H=>Bs4 G H s tb ga gn gc oa on oc pa pn pc t h n hn
theorem TmQ.mv (hq:TmQ G tb t s K H) (h:OkS s) (r c:Int) (hr: -100000≤r∧r≤100000):SC Tryz.prog G 213 [.pointer (some ⟨tb,0,none⟩),.int .i64 r,.int .i64 c] H fun v H'=>v=resV []∧TmQ G tb t (moveA s r c) K H':=
 hq.blk (by unfold moveA rowAt;split<;>rfl) (by unfold moveA rowAt;split<;>rfl) (by unfold moveA rowAt;split<;>rfl) fun ga gn gc oa on oc pa pn pc H=>Ax0 G H s tb ga gn gc oa on oc pa pn pc t h r c hr
theorem TmQ.save (hq:TmQ G tb t s K H) (h:OkS s):SC Tryz.prog G 161 [.pointer (some ⟨tb,0,none⟩)] H fun v H'=>v=resV []∧TmQ G tb t (saveA s) K H':=
 hq.blk rfl rfl rfl fun ga gn gc oa on oc pa pn pc H=>Ax2 G H s tb ga gn gc oa on oc pa pn pc t h
theorem TmQ.rest (hq:TmQ G tb t s K H) (h:OkS s):SC Tryz.prog G 162 [.pointer (some ⟨tb,0,none⟩)] H fun v H'=>v=resV []∧TmQ G tb t (restA s) K H':=
 hq.blk rfl rfl rfl fun ga gn gc oa on oc pa pn pc H=>Ax1 G H s tb ga gn gc oa on oc pa pn pc t h
end
theorem BG7 {L:List Int} {i:Nat} (h:∀x∈L,-1≤x∧x≤16383):1≤posA L i∧posA L i≤16383:=by
 unfold posA getA
 split
 ·rename_i hi
  have:=h _ (show L.getD i 0∈L by rw[List.getD_eq_getElem?_getD,List.getElem?_eq_getElem hi.1];exact List.getElem_mem hi.1)
  omega
 ·decide
theorem BF8 {L:List Int} {i:Nat} {d:Int} (h:∀x∈L,-1≤x∧x≤16383) (hd:0≤d∧d≤16383):0≤getA L i d∧getA L i d≤16383:=by
 unfold getA
 split
 ·rename_i hi
  have:=h _ (show L.getD i 0∈L by rw[List.getD_eq_getElem?_getD,List.getElem?_eq_getElem hi.1];exact List.getElem_mem hi.1)
  omega
 ·exact hd
section
attribute [local irreducible] SW SL SQ AtQ SV SC BB LD PK Yields SO SOT SOA SY SP SPT SPA
variable (G:Ctx) (tb:Nat) (t:ByteArray)
theorem AZ4 (H:List Ent) (L:List Int) (a:Option Addr) (c:Nat) [h1:RdC G H a (ints L)] (i:Nat):SV Tryz.prog G 166 [.slice a L.length c,.int .i64 i] H (.int .i64 (posA L i)):=
 BA2 G H L a L.length c rfl i (getA L i 1) (by unfold getA;rw[Int.toNat_natCast];congr 1;apply propext;constructor<;>(intro h;omega))
theorem AY9 (H:List Ent) (L:List Int) (a:Option Addr) (c:Nat) [h1:RdC G H a (ints L)] (i:Nat) (d:Int):SV Tryz.prog G 167 [.slice a L.length c,.int .i64 i,.int .i64 d] H (.int .i64 (getA L i d)):=by
 have h:=Ao2 G H L a L.length c rfl i d
 have e:(if 0≤(i:Int)∧(i:Int)<(L.length:Nat)∧L.getD (i:Int).toNat 0≠ -1 then L.getD (i:Int).toNat 0 else d)=getA L i d:=by
  unfold getA;rw[Int.toNat_natCast];congr 1;apply propext;constructor<;>(intro h;omega)
 rwa [e] at h
theorem cursQ (K H:List Ent) (s:Scr) (h:OkS s) (hq:TmQ G tb t s K H) (L:List Int) (hL:∀x∈L,-1≤x∧x≤16383) (k c m n:Int) (i x:ByteArray) (aa:Option Addr) (ac:Nat) [h1:RdC G K aa (ints L)] (hn:1≤n∧n≤16383):SC Tryz.prog G 168 [.pointer (some ⟨tb,0,none⟩),acV k c m i aa L.length ac x,.int .i64 n] H fun v H'=>v= .bool (cursA s c n (posA L 1)).isSome∧TmQ G tb t ((cursA s c n (posA L 1)).getD s) K H':=by
 have hz:=h.g.size
 have hc:=h.col
 have hr:=h.row
 have hneg:IntKind.i64.wrap (0-n)= -n:=(IntWalk.i64_in (0-n) (by omega)).trans (by omega)
 unfold cursA acV
 by_cases g0:c=65
 ·rw[if_pos g0]
  subst g0
  refine U4 Tryz.func168 O O O O O ?_
  repeat' (first|(apply E8;first|(apply A8;refine A9 ?_)|(apply E5;refine F7 O O O ?_;refine F9 O ?_)|(apply F5;refine F8 O O ?_;refine F4 O ?_)|(apply D5;refine D9 O O ?_)|(apply G6;refine G7 (D8 O O) O ?_)|(apply K6;refine L9 O O O O O O (fun _=>?_)))|(apply D6)|(apply F3)|((fail_if_success (refine J5 (id:=4) ?_));apply A7)|(refine G5 O ?_;apply I1)|(apply C9))
  rename_i b
  obtain⟨H2,hp2,hq2⟩:=hq.push (.blk b 160 [.int .i64 k,.int .i64 65,.int .i64 m,.string i,.slice aa L.length ac,.string x])
  refine Z5 H2 (fun _ hw=>hw.perm hp2) ?_
  repeat' (first|(apply E8;first|(apply A8;refine A9 ?_)|(apply C8;refine D7 O O ?_)|(apply D5;refine D9 O O ?_)|(apply H5;refine c_call O O O (hq2.up h n (by omega)) O O ?_;rintro _ _ ⟨rfl,hq3⟩))|(apply D6)|(apply I4)|(apply A7)|(apply C9)|(apply H9))
  all_goals exact I8 _ (by (exact .inr O)) O (fun _ hw=>hw) ⟨O,hq3.cut⟩
 rw[if_neg g0]
 by_cases g1:c=66
 ·rw[if_pos g1]
  subst g1
  refine U4 Tryz.func168 O O O O O ?_
  repeat' (first|(apply E8;first|(apply A8;refine A9 ?_)|(apply E5;refine F7 O O O ?_;refine F9 O ?_)|(apply F5;refine F8 O O ?_;refine F4 O ?_)|(apply D5;refine D9 O O ?_)|(apply G6;refine G7 (D8 O O) O ?_)|(apply K6;refine L9 O O O O O O (fun _=>?_)))|(apply D6)|(apply F3)|((fail_if_success (refine J5 (id:=6) ?_));apply A7)|(refine G5 O ?_;first|(apply I1)|(apply H7))|(apply C9))
  rename_i b
  obtain⟨H2,hp2,hq2⟩:=hq.push (.blk b 160 [.int .i64 k,.int .i64 66,.int .i64 m,.string i,.slice aa L.length ac,.string x])
  refine Z5 H2 (fun _ hw=>hw.perm hp2) ?_
  have hu:=hq2.up h (-n) (by omega)
  rw[←hneg] at hu
  repeat' (first|(apply E8;first|(apply A8;refine A9 ?_)|(apply C8;refine D7 O O ?_)|(apply D5;refine D9 O O ?_)|(apply X5;refine Z9 (Z8 O O O) O ?_)|(apply H5;refine c_call O O O (hu) O O ?_;rintro _ _ ⟨rfl,hq3⟩))|(apply D6)|(apply I4)|(apply A7)|(apply C9)|(apply H9))
  rw[hneg] at hq3
  all_goals exact I8 _ (by (exact .inr O)) O (fun _ hw=>hw) ⟨O,hq3.cut⟩
 rw[if_neg g1]
 by_cases g2:c=67
 ·rw[if_pos g2]
  subst g2
  refine U4 Tryz.func168 O O O O O ?_
  repeat' (first|(apply E8;first|(apply A8;refine A9 ?_)|(apply E5;refine F7 O O O ?_;refine F9 O ?_)|(apply F5;refine F8 O O ?_;refine F4 O ?_)|(apply D5;refine D9 O O ?_)|(apply G6;refine G7 (D8 O O) O ?_)|(apply K6;refine L9 O O O O O O (fun _=>?_)))|(apply D6)|(apply F3)|((fail_if_success (refine J5 (id:=8) ?_));apply A7)|(refine G5 O ?_;first|(apply I1)|(apply H7))|(apply C9))
  rename_i b
  obtain⟨H2,hp2,hq2⟩:=hq.push (.blk b 160 [.int .i64 k,.int .i64 67,.int .i64 m,.string i,.slice aa L.length ac,.string x])
  refine Z5 H2 (fun _ hw=>hw.perm hp2) ?_
  have hq0:=hq2
  obtain⟨gb,gn,gc,ob,on,oc,P,pa,pn,pc,X,E,rfl,hi⟩:=hq2
  unfold trmC at hq0 ⊢
  repeat' (first|(apply E8;first|(apply A8;refine A9 ?_)|(apply C8;refine D7 O O ?_)|(apply E5;refine F7 O O O ?_;apply K9;refine L6 ⟨by omega,by omega⟩ ?_)|(apply F5;refine F8 O O ?_;refine F4 O ?_)|(apply D5;refine D9 O O ?_)|(apply G6;refine G7 (D8 O O) O ?_)|(apply I9;refine J7 (F6 O O) O ?_)|(apply H5;refine c_call O O O (hq0.col h (s.col+n)) O O ?_;rintro _ _ ⟨rfl,hq3⟩))|(apply D6)|(apply I4)|(apply A7)|(apply C9)|(apply H9))
  all_goals exact I8 _ (by (exact .inr O)) O (fun _ hw=>hw) ⟨O,hq3.cut⟩
 rw[if_neg g2]
 by_cases g3:c=68
 ·rw[if_pos g3]
  subst g3
  refine U4 Tryz.func168 O O O O O ?_
  repeat' (first|(apply E8;first|(apply A8;refine A9 ?_)|(apply E5;refine F7 O O O ?_;refine F9 O ?_)|(apply F5;refine F8 O O ?_;refine F4 O ?_)|(apply D5;refine D9 O O ?_)|(apply G6;refine G7 (D8 O O) O ?_)|(apply K6;refine L9 O O O O O O (fun _=>?_)))|(apply D6)|(apply F3)|((fail_if_success (refine J5 (id:=10) ?_));apply A7)|(refine G5 O ?_;first|(apply I1)|(apply H7))|(apply C9))
  rename_i b
  obtain⟨H2,hp2,hq2⟩:=hq.push (.blk b 160 [.int .i64 k,.int .i64 68,.int .i64 m,.string i,.slice aa L.length ac,.string x])
  refine Z5 H2 (fun _ hw=>hw.perm hp2) ?_
  have hq0:=hq2
  obtain⟨gb,gn,gc,ob,on,oc,P,pa,pn,pc,X,E,rfl,hi⟩:=hq2
  unfold trmC at hq0 ⊢
  repeat' (first|(apply E8;first|(apply A8;refine A9 ?_)|(apply C8;refine D7 O O ?_)|(apply E5;refine F7 O O O ?_;apply U8;refine V4 ⟨by omega,by omega⟩ ?_)|(apply F5;refine F8 O O ?_;refine F4 O ?_)|(apply D5;refine D9 O O ?_)|(apply G6;refine G7 (D8 O O) O ?_)|(apply I9;refine J7 (F6 O O) O ?_)|(apply H5;refine c_call O O O (hq0.col h (s.col-n)) O O ?_;rintro _ _ ⟨rfl,hq3⟩))|(apply D6)|(apply I4)|(apply A7)|(apply C9)|(apply H9))
  all_goals exact I8 _ (by (exact .inr O)) O (fun _ hw=>hw) ⟨O,hq3.cut⟩
 rw[if_neg g3]
 by_cases g4:c=69
 ·rw[if_pos g4]
  subst g4
  refine U4 Tryz.func168 O O O O O ?_
  repeat' (first|(apply E8;first|(apply A8;refine A9 ?_)|(apply E5;refine F7 O O O ?_;refine F9 O ?_)|(apply F5;refine F8 O O ?_;refine F4 O ?_)|(apply D5;refine D9 O O ?_)|(apply G6;refine G7 (D8 O O) O ?_)|(apply K6;refine L9 O O O O O O (fun _=>?_)))|(apply D6)|(apply F3)|((fail_if_success (refine J5 (id:=12) ?_));apply A7)|(refine G5 O ?_;first|(apply I1)|(apply H7))|(apply C9))
  rename_i b
  obtain⟨H2,hp2,hq2⟩:=hq.push (.blk b 160 [.int .i64 k,.int .i64 69,.int .i64 m,.string i,.slice aa L.length ac,.string x])
  refine Z5 H2 (fun _ hw=>hw.perm hp2) ?_
  have hu:=hq2.up h (-n) (by omega)
  rw[←hneg] at hu
  repeat' (first|(apply E8;first|(apply A8;refine A9 ?_)|(apply C8;refine D7 O O ?_)|(apply D5;refine D9 O O ?_)|(apply X5;refine Z9 (Z8 O O O) O ?_)|(apply H5;first|(refine c_call O O O hu O O ?_;rintro _ _ ⟨rfl,hq3⟩;rw[hneg] at hq3)|(refine c_call O O O (hq3.col (h.up _) 0) O O ?_;rintro _ _ ⟨rfl,hq4⟩)))|(apply D6)|(apply I4)|(apply A7)|(apply C9)|(apply H9))
  all_goals exact I8 _ (by (exact .inr O)) O (fun _ hw=>hw) ⟨O,hq4.cut⟩
 rw[if_neg g4]
 by_cases g5:c=70
 ·rw[if_pos g5]
  subst g5
  refine U4 Tryz.func168 O O O O O ?_
  repeat' (first|(apply E8;first|(apply A8;refine A9 ?_)|(apply E5;refine F7 O O O ?_;refine F9 O ?_)|(apply F5;refine F8 O O ?_;refine F4 O ?_)|(apply D5;refine D9 O O ?_)|(apply G6;refine G7 (D8 O O) O ?_)|(apply K6;refine L9 O O O O O O (fun _=>?_)))|(apply D6)|(apply F3)|((fail_if_success (refine J5 (id:=15) ?_));apply A7)|(refine G5 O ?_;first|(apply I1)|(apply H7))|(apply C9))
  rename_i b
  obtain⟨H2,hp2,hq2⟩:=hq.push (.blk b 160 [.int .i64 k,.int .i64 70,.int .i64 m,.string i,.slice aa L.length ac,.string x])
  refine Z5 H2 (fun _ hw=>hw.perm hp2) ?_
  repeat' (first|(apply E8;first|(apply A8;refine A9 ?_)|(apply C8;refine D7 O O ?_)|(apply D5;refine D9 O O ?_)|(apply H5;first|(refine c_call O O O (hq2.up h n (by omega)) O O ?_;rintro _ _ ⟨rfl,hq3⟩)|(refine c_call O O O (hq3.col (h.up _) 0) O O ?_;rintro _ _ ⟨rfl,hq4⟩)))|(apply D6)|(apply I4)|(apply A7)|(apply C9)|(apply H9))
  all_goals exact I8 _ (by (exact .inr O)) O (fun _ hw=>hw) ⟨O,hq4.cut⟩
 rw[if_neg g5]
 by_cases g6:c=71∨c=96
 ·rw[if_pos g6]
  rcases g6 with rfl|rfl
  all_goals
   refine U4 Tryz.func168 O O O O O ?_
   repeat' (first|(apply E8;first|(apply A8;refine A9 ?_)|(apply E5;refine F7 O O O ?_;refine F9 O ?_)|(apply F5;refine F8 O O ?_;refine F4 O ?_)|(apply D5;refine D9 O O ?_)|(apply G6;refine G7 (D8 O O) O ?_)|(apply K6;refine L9 O O O O O O (fun _=>?_)))|(apply D6)|(apply G8)|(apply F3)|((fail_if_success (refine J5 (id:=19) ?_));apply A7)|(refine G5 O ?_;first|(apply I1)|(apply H7))|(apply C9))
   rename_i b
   obtain⟨H2,hp2,hq2⟩:=hq.push (.blk b 160 [.int .i64 k,.int .i64 _,.int .i64 m,.string i,.slice aa L.length ac,.string x])
   refine Z5 H2 (fun _ hw=>hw.perm hp2) ?_
   repeat' (first|(apply E8;first|(apply A8;refine A9 ?_)|(apply C8;refine D7 O O ?_)|(apply E5;refine F7 O O O ?_;apply U8;refine V4 ⟨by omega,by omega⟩ ?_)|(apply D5;refine D9 O O ?_)|(apply H5;refine c_call O O O (hq2.col h (n-1)) O O ?_;rintro _ _ ⟨rfl,hq3⟩))|(apply D6)|(apply I4)|(apply A7)|(apply C9)|(apply H9))
   all_goals exact I8 _ (by (exact .inr O)) O (fun _ hw=>hw) ⟨O,hq3.cut⟩
 rw[if_neg g6]
 by_cases g7:c=100
 ·rw[if_pos g7]
  subst g7
  refine U4 Tryz.func168 O O O O O ?_
  repeat' (first|(apply E8;first|(apply A8;refine A9 ?_)|(apply E5;refine F7 O O O ?_;refine F9 O ?_)|(apply F5;refine F8 O O ?_;refine F4 O ?_)|(apply D5;refine D9 O O ?_)|(apply G6;refine G7 (D8 O O) O ?_)|(apply K6;refine L9 O O O O O O (fun _=>?_)))|(apply D6)|(apply F3)|((fail_if_success (refine J5 (id:=21) ?_));apply A7)|(refine G5 O ?_;first|(apply I1)|(apply H7))|(apply C9))
  rename_i b
  obtain⟨H2,hp2,hq2⟩:=hq.push (.blk b 160 [.int .i64 k,.int .i64 100,.int .i64 m,.string i,.slice aa L.length ac,.string x])
  refine Z5 H2 (fun _ hw=>hw.perm hp2) ?_
  have hq0:=hq2
  obtain⟨gb,gn,gc,ob,on,oc,P,pa,pn,pc,X,E,rfl,hi⟩:=hq2
  unfold trmC at hq0 ⊢
  repeat' (first|(apply E8;first|(apply A8;refine A9 ?_)|(apply C8;refine D7 O O ?_)|(apply E5;refine F7 O O O ?_;apply U8;refine V4 ⟨by omega,by omega⟩ ?_)|(apply F5;refine F8 O O ?_;refine F4 O ?_)|(apply D5;refine D9 O O ?_)|(apply G6;refine G7 (D8 O O) O ?_)|(apply I9;refine J7 (F6 O O) O ?_)|(apply H5;refine c_call O O O (hq0.mv h (n-1) s.col (by omega)) O O ?_;rintro _ _ ⟨rfl,hq3⟩))|(apply D6)|(apply I4)|(apply A7)|(apply C9)|(apply H9))
  all_goals exact I8 _ (by (exact .inr O)) O (fun _ hw=>hw) ⟨O,hq3.cut⟩
 rw[if_neg g7]
 by_cases g8:c=72∨c=102
 ·rw[if_pos g8]
  rcases g8 with rfl|rfl
  all_goals
   refine U4 Tryz.func168 O O O O O ?_
   repeat' (first|(apply E8;first|(apply A8;refine A9 ?_)|(apply E5;refine F7 O O O ?_;refine F9 O ?_)|(apply F5;refine F8 O O ?_;refine F4 O ?_)|(apply D5;refine D9 O O ?_)|(apply G6;refine G7 (D8 O O) O ?_)|(apply K6;refine L9 O O O O O O (fun _=>?_)))|(apply D6)|(apply G8)|(apply F3)|((fail_if_success (refine J5 (id:=24) ?_));apply A7)|(refine G5 O ?_;first|(apply I1)|(apply H7))|(apply C9))
   rename_i b
   obtain⟨H2,hp2,hq2⟩:=hq.push (.blk b 160 [.int .i64 k,.int .i64 _,.int .i64 m,.string i,.slice aa L.length ac,.string x])
   refine Z5 H2 (fun _ hw=>hw.perm hp2) ?_
   have hq0:=hq2
   obtain⟨gb,gn,gc,ob,on,oc,P,pa,pn,pc,X,E,rfl,hi⟩:=hq2
   unfold trmC at hq0 ⊢
   have cP:=fun (H:List Ent) [RdC G H aa (ints L)]=>AZ4 G H L aa ac 1
   have hp1:=BG7 (L:=L) (i:=1) hL
   generalize posA L 1=m1 at *
   generalize L.length=ln at *
   repeat' (first|(apply E8;first|(apply A8;refine A9 ?_)|(apply C8;refine D7 O O ?_)|(apply E5;refine F7 O O O ?_;apply U8;refine V4 ⟨by omega,by omega⟩ ?_)|(apply F5;refine F8 O O ?_;refine F4 O ?_)|(apply D5;refine D9 O O ?_)|(apply G6;refine G7 (D8 O O) O ?_)|(apply H5;first|refine H6 O O O (cP _) O O ?_ |(refine c_call O O O (hq0.mv h (n-1) (m1-1) (by omega)) O O ?_;rintro _ _ ⟨rfl,hq3⟩)))|(apply D6)|(apply I4)|(apply A7)|(apply C9)|(apply H9))
   all_goals exact I8 _ (by (exact .inr O)) O (fun _ hw=>hw) ⟨O,hq3.cut⟩
 rw[if_neg g8]
 by_cases g9:c=73
 ·rw[if_pos g9]
  subst g9
  refine U4 Tryz.func168 O O O O O ?_
  repeat' (first|(apply E8;first|(apply A8;refine A9 ?_)|(apply E5;refine F7 O O O ?_;refine F9 O ?_)|(apply F5;refine F8 O O ?_;refine F4 O ?_)|(apply D5;refine D9 O O ?_)|(apply G6;refine G7 (D8 O O) O ?_)|(apply K6;refine L9 O O O O O O (fun _=>?_)))|(apply D6)|(apply F3)|((fail_if_success (refine J5 (id:=26) ?_));apply A7)|(refine G5 O ?_;first|(apply I1)|(apply H7))|(apply C9))
  rename_i b
  obtain⟨H2,hp2,hq2⟩:=hq.push (.blk b 160 [.int .i64 k,.int .i64 73,.int .i64 m,.string i,.slice aa L.length ac,.string x])
  refine Z5 H2 (fun _ hw=>hw.perm hp2) ?_
  have hq0:=hq2
  obtain⟨gb,gn,gc,ob,on,oc,P,pa,pn,pc,X,E,rfl,hi⟩:=hq2
  unfold trmC at hq0 ⊢
  have cN:=fun H=>A45 G H s.st h.st s.col n s.w hz.1 hc hn
  unfold AA1 at cN
  unfold nextA
  generalize nextV s.st s.col.toNat n.toNat s.w=z at *
  repeat' (first|(apply E8;first|(apply A8;refine A9 ?_)|(apply C8;refine D7 O O ?_)|(apply D5;refine D9 O O ?_)|(apply H5;refine c_call O O O (hq0.col h z) O O ?_;rintro _ _ ⟨rfl,hq3⟩))|(apply u7;first|(apply Y3;refine Y2 ?_)|(apply Y8;refine j5 O O ?_)|(apply V8;refine Y4 O O ?_;first|refine F4 O ?_ |refine O9 O O ?_)|(apply Y1;refine Z7 O O ?_)|(apply V9;refine X9 (D8 O O) O ?_)|(apply AY5;refine Ad8 (M0 O O O) O ?_)|(apply p8;refine AA0 (F6 O O) O ?_)|(apply AE3;refine V7 O O O (cN _) O O ?_))|(apply D6)|(apply I4)|(apply A7)|(apply C9)|(apply H9)|refine V6 (by kernel_rfl) ?_)
  all_goals exact I8 _ (by (exact .inr O)) O (fun _ hw=>hw) ⟨O,hq3.cut⟩
 rw[if_neg g9]
 by_cases g10:c=90
 ·rw[if_pos g10]
  subst g10
  refine U4 Tryz.func168 O O O O O ?_
  repeat' (first|(apply E8;first|(apply A8;refine A9 ?_)|(apply E5;refine F7 O O O ?_;refine F9 O ?_)|(apply F5;refine F8 O O ?_;refine F4 O ?_)|(apply D5;refine D9 O O ?_)|(apply G6;refine G7 (D8 O O) O ?_)|(apply K6;refine L9 O O O O O O (fun _=>?_)))|(apply D6)|(apply F3)|((fail_if_success (refine J5 (id:=29) ?_));apply A7)|(refine G5 O ?_;first|(apply I1)|(apply H7))|(apply C9))
  rename_i b
  obtain⟨H2,hp2,hq2⟩:=hq.push (.blk b 160 [.int .i64 k,.int .i64 90,.int .i64 m,.string i,.slice aa L.length ac,.string x])
  refine Z5 H2 (fun _ hw=>hw.perm hp2) ?_
  have hq0:=hq2
  obtain⟨gb,gn,gc,ob,on,oc,P,pa,pn,pc,X,E,rfl,hi⟩:=hq2
  unfold trmC at hq0 ⊢
  have cN:=fun H=>Bd8 G H s.st h.st s.col n (by omega) hn
  unfold AA1 at cN
  generalize backV s.st s.col.toNat n.toNat=z at *
  repeat' (first|(apply E8;first|(apply A8;refine A9 ?_)|(apply C8;refine D7 O O ?_)|(apply D5;refine D9 O O ?_)|(apply H5;refine c_call O O O (hq0.col h z) O O ?_;rintro _ _ ⟨rfl,hq3⟩))|(apply u7;first|(apply Y3;refine Y2 ?_)|(apply Y8;refine j5 O O ?_)|(apply V8;refine Y4 O O ?_;first|refine F4 O ?_ |refine O9 O O ?_)|(apply Y1;refine Z7 O O ?_)|(apply V9;refine X9 (D8 O O) O ?_)|(apply AY5;refine Ad8 (M0 O O O) O ?_)|(apply p8;refine AA0 (F6 O O) O ?_)|(apply AE3;refine V7 O O O (cN _) O O ?_))|(apply D6)|(apply I4)|(apply A7)|(apply C9)|(apply H9)|refine V6 (by kernel_rfl) ?_)
  all_goals exact I8 _ (by (exact .inr O)) O (fun _ hw=>hw) ⟨O,hq3.cut⟩
 rw[if_neg g10]
 by_cases g11:c=115
 ·rw[if_pos g11]
  subst g11
  refine U4 Tryz.func168 O O O O O ?_
  repeat' (first|(apply E8;first|(apply A8;refine A9 ?_)|(apply E5;refine F7 O O O ?_;refine F9 O ?_)|(apply F5;refine F8 O O ?_;refine F4 O ?_)|(apply D5;refine D9 O O ?_)|(apply G6;refine G7 (D8 O O) O ?_)|(apply K6;refine L9 O O O O O O (fun _=>?_)))|(apply D6)|(apply F3)|((fail_if_success (refine J5 (id:=32) ?_));apply A7)|(refine G5 O ?_;first|(apply I1)|(apply H7))|(apply C9))
  rename_i b
  obtain⟨H2,hp2,hq2⟩:=hq.push (.blk b 160 [.int .i64 k,.int .i64 115,.int .i64 m,.string i,.slice aa L.length ac,.string x])
  refine Z5 H2 (fun _ hw=>hw.perm hp2) ?_
  repeat' (first|(apply E8;first|(apply A8;refine A9 ?_)|(apply C8;refine D7 O O ?_)|(apply D5;refine D9 O O ?_)|(apply H5;refine c_call O O O (hq2.save h) O O ?_;rintro _ _ ⟨rfl,hq3⟩))|(apply D6)|(apply I4)|(apply A7)|(apply C9)|(apply H9))
  all_goals exact I8 _ (by (exact .inr O)) O (fun _ hw=>hw) ⟨O,hq3.cut⟩
 rw[if_neg g11]
 by_cases g12:c=117
 ·rw[if_pos g12]
  subst g12
  refine U4 Tryz.func168 O O O O O ?_
  repeat' (first|(apply E8;first|(apply A8;refine A9 ?_)|(apply E5;refine F7 O O O ?_;refine F9 O ?_)|(apply F5;refine F8 O O ?_;refine F4 O ?_)|(apply D5;refine D9 O O ?_)|(apply G6;refine G7 (D8 O O) O ?_)|(apply K6;refine L9 O O O O O O (fun _=>?_)))|(apply D6)|(apply F3)|((fail_if_success (refine J5 (id:=34) ?_));apply A7)|(refine G5 O ?_;first|(apply I1)|(apply H7))|(apply C9))
  rename_i b
  obtain⟨H2,hp2,hq2⟩:=hq.push (.blk b 160 [.int .i64 k,.int .i64 117,.int .i64 m,.string i,.slice aa L.length ac,.string x])
  refine Z5 H2 (fun _ hw=>hw.perm hp2) ?_
  repeat' (first|(apply E8;first|(apply A8;refine A9 ?_)|(apply C8;refine D7 O O ?_)|(apply D5;refine D9 O O ?_)|(apply H5;refine c_call O O O (hq2.rest h) O O ?_;rintro _ _ ⟨rfl,hq3⟩))|(apply D6)|(apply I4)|(apply A7)|(apply C9)|(apply H9))
  all_goals exact I8 _ (by (exact .inr O)) O (fun _ hw=>hw) ⟨O,hq3.cut⟩
 rw[if_neg g12]
 have fin:=hq
 refine U4 Tryz.func168 O O O O O ?_
 repeat' (first|(apply E8;first|(apply A8;refine A9 ?_)|(apply E5;refine F7 O O O ?_;refine F9 O ?_)|(apply F5;refine F8 O O ?_;refine F4 O ?_)|(apply D5;refine D9 O O ?_)|(apply G6;refine G7 (D8 O O) O ?_)|(apply K6;refine L9 O O O O O O (fun _=>?_)))|(apply D6)|(apply I4)|(apply F3)|(apply A7)|(refine G5 O ?_;apply E9<;>intro hq<;>(try (exfalso;omega)))|(apply C9)|(apply J8)|(apply U5))
 all_goals exact I8 H (by (exact .inr O)) O J3 ⟨O,fin⟩
end
end Go.Proofs.YtmmnimagbnlcmaaGreatDoor
