/- Texts of this claim, merged: TT6 TT7 TT8 TT9 TopL TT10. -/
import Derived.Test.YtmmnimagbnlcmaaGreatDoorTy18
import Derived.Test.YtmmnimagbnlcmaaGreatDoorRows
import Derived.WalkKit
import Derived.WalkSpells
import Derived.WalkLawsBesides
import Derived.Handy
import Derived.Lib.Hide
import Derived.Laws.BitsAllLaws
import Derived.Deep.MidRow
import Derived.Deep.WholeRow
import Derived.BigQuiet
import Derived.Deep.QuietTactic
import Derived.Laws.CopyOwn
import Derived.StillTailTactics
import Derived.RegionTactic
import Derived.ChangeAlike
import Derived.Laws.AppendOwnNone
import Derived.Laws.MakeOwn
import Derived.Laws.IdiomStrings
import Derived.OrdersHeld
import Derived.Lib.SliceRun
import Derived.ChangeKeysEq
import Derived.Laws.CopyRow
import Derived.Lib.AppendStr
import Derived.ArgAppend
import Derived.Laws.RangeAny
import Derived.Maps.RangeRun
import Derived.Lib.Replace
import Derived.Lib.Join
import Derived.Lib.IndexLaws
import Derived.Lib.IndexMore
import Derived.Lib.SplitLaws
import Derived.Shelf.Strings.Builder1
import Derived.Shelf.Strings.Builder2
import Derived.Shelf.Strings.OnBuilder
import Derived.Shelf.Strings.Trim
import Derived.Shelf.Small.Utf8
import Derived.Shelf.Small.Strs
import Derived.Shelf.Strings.BuilderF
import Derived.Shelf.Strconv.Itoa0
import Derived.Shelf.Strconv.Itoa1
import Derived.Shelf.LaysM
import Derived.Shelf.Strconv.Itoa2
import Derived.Shelf.Strconv.Itoa3
import Derived.Shelf.Strings.Search1
import Derived.Shelf.Strings.Search2
import Derived.Shelf.Strings.Search3
import Derived.Shelf.Strings.Count
import Derived.Shelf.Strings.Shaped
import Derived.Shelf.Strings.LastIndex
import Derived.Shelf.Strings.Prefix
import Derived.Shelf.Strings.Split
import Derived.Shelf.Strings.Replace
import Derived.Shelf.Strings.SplitShaped
import Derived.Shelf.Strings.Runes
import Derived.Shelf.Strings.AsciiSet
import Derived.Shelf.Bits.Mul64
import Derived.Shelf.Strings.Repeat
import Derived.Shelf.Unicode.DecodeSlow
import Derived.Shelf.Unicode.DecodeAny
import Derived.Shelf.Unicode.ValidAny
import Derived.Test.YtmmnimagbnlcmaaGreatDoorProg
import Derived.Lib.Bytealg
import Derived.Lib.Repeat
import Derived.Lib.DecodeN
import Derived.Lib.ItoaNum
import Derived.Lib.AppendIntMem
import Derived.Lib.ItoaLen
import Derived.Lib.ValidU
import Derived.Lib.MapLaws
set_option maxRecDepth 100000
set_option maxHeartbeats 8000000
open Go Go.RowKit Go.Fw Go.Sx
namespace Go.Sx
theorem pickH {G:Ctx} {H H':List Ent} {b:Nat} {t:TypeId} {cs:List Value} {w:World} [hp:PickBlk H b t cs H'] (hw:Holds G H w):Holds G (.blk b t cs::H') w:=hw.pick hp.here
end Go.Sx
namespace Go.Proofs.YtmmnimagbnlcmaaGreatDoor
abbrev wirC (C0 C1:List Value) (s0 s1:ByteArray):List Value:=big [] C0 (big [] C1 [.string s0,.string s1])
theorem AU3 {C0 C1:List Value} [h0:Len C0 613] [h1:Len C1 613] {s0 s1:ByteArray}:(wirC C0 C1 s0 s1).length=1228:=by
 unfold wirC big
 simp only[List.length_append,h0.here,h1.here,List.length_nil,List.length_cons]
section
attribute [local irreducible] SW SL SQ AtQ SV SC BB LD PK Yields SO SOT SOA SY SP SPT SPA negC
theorem BB8 (G:Ctx) (H:List Ent) (wb:Nat) (C0 C1:List Value) [hC0:Len C0 613] [hC1:Len C1 613] (s0 s1:ByteArray) (hs:s1.size≤1000000000) (ev:List Value) (hev:ev.length=16) (hevo:ev.all (·.oneCell')=true) (e:Int) (R:List Ent→List Value→ByteArray→Prop)
 (hR:∀E C s,R E C s→C.length=613∧C.all (·.oneCell')=true∧s.size≤4000000)
 (cD:∀H',(∀w,Holds G H' w→Holds G H w)→SC Tryz.prog G 18 [.agg C0.toArray,.agg ev.toArray] H' fun v H''=>∃E C s,v= .tuple #[.agg C.toArray,.string s,.int .i64 e]∧H''=E++H'∧R E C s):
 SC Tryz.prog G 8 [.pointer (some ⟨wb,0,none⟩),.int .i64 0,.agg ev.toArray] (.blk wb 66 (wirC C0 C1 s0 s1)::H) fun v H'=>∃E C s,v= .int .i64 e∧H'= .blk wb 66 (wirC C C1 s0 (s1++s))::(E++H)∧R E C s:=by
 have hevb:Nat.beq ev.length 16=true:=by rw[hev];rfl
 have hz0:=AD0
 refine U4 Tryz.func8 O O O O O ?_
 repeat' (first|(apply E8;first|(apply A8;refine A9 ?_)|(apply D5;refine D9 O O ?_)|(apply K6;refine L9 O O O O O O (fun _=>?_)))|(apply D6)|((fail_if_success (refine J5 (id:=1) ?_));apply A7)|(apply C9))
 rename_i b5
 refine y5 (α:=List Value×Nat×ByteArray×List Ent) (fun g=>[(0,.pointer (some ⟨wb,0,none⟩)),(1,.int .i64 0),(7,.pointer (some ⟨g.2.1,0,none⟩)),(8,.string g.2.2.1),(9,.int .i64 e)]) (fun g=> .blk g.2.1 56 g.1::(g.2.2.2++ .blk wb 66 (wirC C0 C1 s0 s1)::H)) (fun g=>R g.2.2.2 g.1 g.2.2.1) ?_ ?_
 ·repeat' (first|(apply E8;first|(apply A8;refine A9 ?_)|(apply F5;refine F8 O O ?_;refine O9 (AI2 O) O ?_)|(apply H5;refine c_call O O O (cD _ (fun _ hw=>hw.sub O0)) O O ?_;rintro _ _ ⟨E,C,s,rfl,rfl,hE⟩;obtain⟨hl,ho,hss⟩:=hR _ _ _ hE)|(apply H8;refine y8 O O O O ho hl hz0 O ?_)|(apply O6;refine Q4 O O O O (fun _=>?_)))|(apply Q0;refine N8 (k:=0) (fun _ hw=>hw.sub (by repeat (first|exact List.Sublist.refl _|refine List.Sublist.cons_cons _ ?_ |refine List.Sublist.cons _ ?_ |refine List.Sublist.trans ?_ (List.sublist_append_right _ _)))) ?_)|(apply U3;first|(refine L8 O ?_)|(refine O4 O O O O (by kernel_rfl) (by decide+kernel) (by decide+kernel) ?_;first|(apply O1;refine G9 (P9 O O) ?_)|(apply R9;refine R6 O ?_;refine M5 hevb ?_)|(apply AA4;refine G9 (o6 O O) ?_)|(apply M3;refine G9 (D8 O O) ?_)|(apply AG3;refine G9 (M0 O O O) ?_)|(apply AF3;refine G9 (l7 O O O (by omega) (by omega)) ?_)|(apply R5;refine G9 (F6 O O) ?_))|(refine O5 O ?_)|(refine N9 (by decide+kernel) ?_)|(refine Q6 (by kernel_rfl) ?_))|(apply V3;first|(refine Q5 O)|(refine U1 (by decide+kernel) ?_)|(refine Q3 O ?_ ?_))|(refine J5 (id:=1) ?_;refine q8 (b:=wb) ?_))
  all_goals
   rename_i b7
   exact J6 (_,b7,_,_) hE Q7 (fun _ hw=>hw.sub (by repeat (first|exact List.Sublist.refl _|refine List.Sublist.append (List.Sublist.refl _) ?_ |refine List.Sublist.cons_cons _ ?_ |refine List.Sublist.cons _ ?_)))
 rintro ⟨C,b7,s,E⟩ hE
 dsimp only at hE ⊢
 obtain⟨hl7,ho7,hss⟩:=hR _ _ _ hE
 have hlb7:Nat.beq C.length 613=true:=by rw[hl7];rfl
 haveI:Len C 613:=⟨hl7⟩
 repeat' (apply D6)
 refine y5 (α:=Unit) (fun _=>[(0,.pointer (some ⟨wb,0,none⟩)),(1,.int .i64 0),(8,.string s),(9,.int .i64 e)]) (fun _=> .blk wb 66 (wirC C C1 s0 s1)::(E++H)) (fun _=>True) ?_ ?_
 ·repeat' (first|(apply E8;first|(apply A8;refine A9 ?_)|(apply H8;refine AF4 O O O O ho7 hl7 (by rw[AU3];decide) (AI1 O hl7) O ?_))|(apply Q0;refine N8 (k:=0) (fun _ hw=>hw.sub O0) ?_)|(apply U3;first|(refine L8 O ?_)|(refine O4 O O O O (by kernel_rfl) (by decide+kernel) (by decide+kernel) ?_;first|(apply O1;refine G9 (P9 O O) ?_)|(apply R9;refine R6 O ?_;refine M5 hlb7 ?_)|(apply M3;refine G9 (D8 O O) ?_)|(apply AF3;refine G9 (l7 O O O (by omega) (by omega)) ?_)|(apply R5;refine G9 (F6 O O) ?_))|(refine O5 O ?_)|(refine N9 (by decide+kernel) ?_)|(refine Q6 (by kernel_rfl) ?_))|(apply V3;first|(refine Q5 O)|(refine U1 (by decide+kernel) ?_)|(refine Q3 O ?_ ?_))|(refine J5 (id:=2) ?_;refine q8 (b:=wb) ?_))
  all_goals exact J6 () trivial Q7 (fun w hw=>(pickH (b:=wb) hw).sub (by repeat (first|exact List.Sublist.refl _|refine List.Sublist.cons_cons _ ?_ |refine List.Sublist.cons _ ?_)))
 rintro ⟨⟩-
 repeat' (first|(apply E8;first|(apply A8;refine A9 ?_)|(apply C8;refine D7 O O ?_)|(apply F5;refine F8 O O ?_;refine F4 (o5 O (o5 O O)) ?_)|(apply D5;refine D9 O O ?_)|(apply H8;refine AE9 O O O O O (AF1 O (AF1 O O)) (by rw[AU3];decide) O ?_))|(apply Q0;refine N8 (k:=0) (fun _ hw=>hw.sub O0) ?_)|(apply U3;first|(refine L8 O ?_)|(refine O4 O O O O (by kernel_rfl) (by decide+kernel) (by decide+kernel) ?_;first|(apply O1;refine G9 (P9 O O) ?_)|(apply AG6;refine AG7 O O ?_;first|(refine AN9 (by omega) ?_)|(apply U8;refine V4 ⟨by omega,by omega⟩ ?_))|(apply M3;refine G9 (D8 O O) ?_)|(apply AF3;refine G9 (l7 O O O (by omega) (by omega)) ?_)|(apply R5;refine G9 (F6 O O) ?_))|(refine O5 O ?_)|(refine N9 (by decide+kernel) ?_)|(refine Q6 (by kernel_rfl) ?_))|(apply V3;first|(refine Q5 O)|(refine U1 (by decide+kernel) ?_)|(refine Q3 O ?_ ?_))|(apply D6)|(apply I4)|(apply A7)|(apply C9)|(refine J5 (id:=3) ?_;refine q8 (b:=wb) ?_))
 all_goals
  refine I8 (.blk wb 66 (wirC C C1 s0 (s1++s))::(E++H)) (by (exact .inr O)) O (fun _ hw=>hw.sub O0) ?_
  exact⟨E,C,s,O,O,hE⟩
theorem BB3 (G:Ctx) (H:List Ent) (wb:Nat) (C0 C1:List Value) [hC0:Len C0 613] [hC1:Len C1 613] (s0 s1:ByteArray) (hs:s0.size≤1000000000) (ev:List Value) (hev:ev.length=16) (hevo:ev.all (·.oneCell')=true) (e:Int) (R:List Ent→List Value→ByteArray→Prop)
 (hR:∀E C s,R E C s→C.length=613∧C.all (·.oneCell')=true∧s.size≤4000000)
 (cD:∀H',(∀w,Holds G H' w→Holds G H w)→SC Tryz.prog G 18 [.agg C1.toArray,.agg ev.toArray] H' fun v H''=>∃E C s,v= .tuple #[.agg C.toArray,.string s,.int .i64 e]∧H''=E++H'∧R E C s):
 SC Tryz.prog G 8 [.pointer (some ⟨wb,0,none⟩),.int .i64 1,.agg ev.toArray] (.blk wb 66 (wirC C0 C1 s0 s1)::H) fun v H'=>∃E C s,v= .int .i64 e∧H'= .blk wb 66 (wirC C0 C (s0++s) s1)::(E++H)∧R E C s:=by
 have hevb:Nat.beq ev.length 16=true:=by rw[hev];rfl
 have hz0:=AD0
 refine U4 Tryz.func8 O O O O O ?_
 repeat' (first|(apply E8;first|(apply A8;refine A9 ?_)|(apply D5;refine D9 O O ?_)|(apply K6;refine L9 O O O O O O (fun _=>?_)))|(apply D6)|((fail_if_success (refine J5 (id:=1) ?_));apply A7)|(apply C9))
 rename_i b5
 refine y5 (α:=List Value×Nat×ByteArray×List Ent) (fun g=>[(0,.pointer (some ⟨wb,0,none⟩)),(1,.int .i64 1),(7,.pointer (some ⟨g.2.1,0,none⟩)),(8,.string g.2.2.1),(9,.int .i64 e)]) (fun g=> .blk g.2.1 56 g.1::(g.2.2.2++ .blk wb 66 (wirC C0 C1 s0 s1)::H)) (fun g=>R g.2.2.2 g.1 g.2.2.1) ?_ ?_
 ·repeat' (first|(apply E8;first|(apply A8;refine A9 ?_)|(apply F5;refine F8 O O ?_;refine O9 (AD8 O (AI2 O)) O ?_)|(apply H5;refine c_call O O O (cD _ (fun _ hw=>hw.sub O0)) O O ?_;rintro _ _ ⟨E,C,s,rfl,rfl,hE⟩;obtain⟨hl,ho,hss⟩:=hR _ _ _ hE)|(apply H8;refine y8 O O O O ho hl hz0 O ?_)|(apply O6;refine Q4 O O O O (fun _=>?_)))|(apply Q0;refine N8 (k:=0) (fun _ hw=>hw.sub (by repeat (first|exact List.Sublist.refl _|refine List.Sublist.cons_cons _ ?_ |refine List.Sublist.cons _ ?_ |refine List.Sublist.trans ?_ (List.sublist_append_right _ _)))) ?_)|(apply U3;first|(refine L8 O ?_)|(refine O4 O O O O (by kernel_rfl) (by decide+kernel) (by decide+kernel) ?_;first|(apply O1;refine G9 (P9 O O) ?_)|(apply R9;refine R6 O ?_;refine M5 hevb ?_)|(apply AA4;refine G9 (o6 O O) ?_)|(apply M3;refine G9 (D8 O O) ?_)|(apply AG3;refine G9 (M0 O O O) ?_)|(apply AF3;refine G9 (l7 O O O (by omega) (by omega)) ?_)|(apply R5;refine G9 (F6 O O) ?_))|(refine O5 O ?_)|(refine N9 (by decide+kernel) ?_)|(refine Q6 (by kernel_rfl) ?_))|(apply V3;first|(refine Q5 O)|(refine U1 (by decide+kernel) ?_)|(refine Q3 O ?_ ?_))|(refine J5 (id:=1) ?_;refine q8 (b:=wb) ?_))
  all_goals
   rename_i b7
   exact J6 (_,b7,_,_) hE Q7 (fun _ hw=>hw.sub (by repeat (first|exact List.Sublist.refl _|refine List.Sublist.append (List.Sublist.refl _) ?_ |refine List.Sublist.cons_cons _ ?_ |refine List.Sublist.cons _ ?_)))
 rintro ⟨C,b7,s,E⟩ hE
 dsimp only at hE ⊢
 obtain⟨hl7,ho7,hss⟩:=hR _ _ _ hE
 have hlb7:Nat.beq C.length 613=true:=by rw[hl7];rfl
 haveI:Len C 613:=⟨hl7⟩
 repeat' (apply D6)
 refine y5 (α:=Unit) (fun _=>[(0,.pointer (some ⟨wb,0,none⟩)),(1,.int .i64 1),(8,.string s),(9,.int .i64 e)]) (fun _=> .blk wb 66 (wirC C0 C s0 s1)::(E++H)) (fun _=>True) ?_ ?_
 ·repeat' (first|(apply E8;first|(apply A8;refine A9 ?_)|(apply H8;refine AF4 O O O O ho7 hl7 (by rw[AU3];decide) (BM0 O (AI1 O hl7)) O ?_))|(apply Q0;refine N8 (k:=0) (fun _ hw=>hw.sub O0) ?_)|(apply U3;first|(refine L8 O ?_)|(refine O4 O O O O (by kernel_rfl) (by decide+kernel) (by decide+kernel) ?_;first|(apply O1;refine G9 (P9 O O) ?_)|(apply R9;refine R6 O ?_;refine M5 hlb7 ?_)|(apply M3;refine G9 (D8 O O) ?_)|(apply AF3;refine G9 (l7 O O O (by omega) (by omega)) ?_)|(apply R5;refine G9 (F6 O O) ?_))|(refine O5 O ?_)|(refine N9 (by decide+kernel) ?_)|(refine Q6 (by kernel_rfl) ?_))|(apply V3;first|(refine Q5 O)|(refine U1 (by decide+kernel) ?_)|(refine Q3 O ?_ ?_))|(refine J5 (id:=2) ?_;refine q8 (b:=wb) ?_))
  all_goals exact J6 () trivial Q7 (fun w hw=>(pickH (b:=wb) hw).sub (by repeat (first|exact List.Sublist.refl _|refine List.Sublist.cons_cons _ ?_ |refine List.Sublist.cons _ ?_)))
 rintro ⟨⟩-
 repeat' (first|(apply E8;first|(apply A8;refine A9 ?_)|(apply C8;refine D7 O O ?_)|(apply F5;refine F8 O O ?_;refine F4 (o5 O (o5 O O)) ?_)|(apply D5;refine D9 O O ?_)|(apply H8;refine AE9 O O O O O (AF1 O (AF1 O O)) (by rw[AU3];decide) O ?_))|(apply Q0;refine N8 (k:=0) (fun _ hw=>hw.sub O0) ?_)|(apply U3;first|(refine L8 O ?_)|(refine O4 O O O O (by kernel_rfl) (by decide+kernel) (by decide+kernel) ?_;first|(apply O1;refine G9 (P9 O O) ?_)|(apply AG6;refine AG7 O O ?_;first|(refine AN9 (by omega) ?_)|(apply U8;refine V4 ⟨by omega,by omega⟩ ?_))|(apply M3;refine G9 (D8 O O) ?_)|(apply AF3;refine G9 (l7 O O O (by omega) (by omega)) ?_)|(apply R5;refine G9 (F6 O O) ?_))|(refine O5 O ?_)|(refine N9 (by decide+kernel) ?_)|(refine Q6 (by kernel_rfl) ?_))|(apply V3;first|(refine Q5 O)|(refine U1 (by decide+kernel) ?_)|(refine Q3 O ?_ ?_))|(apply D6)|(apply I4)|(apply A7)|(apply C9)|(refine J5 (id:=3) ?_;refine q8 (b:=wb) ?_))
 all_goals
  refine I8 (.blk wb 66 (wirC C0 C (s0++s) s1)::(E++H)) (by (exact .inr O)) O (fun _ hw=>hw.sub O0) ?_
  exact⟨E,C,s,O,O,hE⟩
theorem BN5 (G:Ctx) (H:List Ent) (wb:Nat) (C0 C1:List Value) [hC0:Len C0 613] [hC1:Len C1 613] (s0 s1:ByteArray) (hs:s0.size≤1000000000) (hs1:s1.size≤1000000) (n:Int) (m:Nat) (hm:(m:Int)=max 0 (min n (min s1.size 4096))) (d r:ByteArray) (hd:s1.extract 0 m=d) (hr:s1.extract m s1.size=r) (R:List Ent→List Value→ByteArray→Prop)
 (hR:∀E C s,R E C s→C.length=613∧C.all (·.oneCell')=true∧s.size≤4000000)
 (cD:∀H',(∀w,Holds G H' w→Holds G H w)→SC Tryz.prog G 18 [.agg C1.toArray,.agg (evC 1 d 0 0).toArray] H' fun v H''=>∃E C s,v= .tuple #[.agg C.toArray,.string s,.int .i64 0]∧H''=E++H'∧R E C s):
 SC Tryz.prog G 9 [.pointer (some ⟨wb,0,none⟩),.int .i64 1,.int .i64 n] (.blk wb 66 (wirC C0 C1 s0 s1)::H) fun v H'=>∃E C s,v= .bool true∧H'= .blk wb 66 (wirC C0 C (s0++s) r)::(E++H)∧R E C s:=by
 have hx1:∀h:Int,h=m→s1.extract (0:Int).toNat h.toNat=d:=fun h e=>by subst e;exact hd
 have hx2:∀h:Int,h=m→s1.extract h.toNat (s1.size:Int).toNat=r:=fun h e=>by subst e;exact hr
 have cE:=fun H=>Aq2 G H d
 have cH:=fun (H':List Ent) (hh:∀w,Holds G H' w→Holds G H w)=>BB3 G H' wb C0 C1 s0 r hs (evC 1 d 0 0) rfl rfl 0 R hR fun H2 h2=>cD H2 fun w hw=>hh w (h2 w hw)
 clear cD hd hr
 refine U4 Tryz.func9 O O O O O ?_
 repeat' (first|(apply E8;first|(apply A8;refine A9 ?_)|(apply D5;refine D9 O O ?_))|(apply D6)|((fail_if_success (refine J5 (id:=1) ?_));apply A7)|(apply C9))
 refine y5 (α:=Int) (fun nn=>[(0,.pointer (some ⟨wb,0,none⟩)),(1,.int .i64 1),(2,.int .i64 nn)]) (fun _=> .blk wb 66 (wirC C0 C1 s0 s1)::H) (fun nn=>nn=m) ?_ ?_
 ·repeat' (first|(apply E8;first|(apply A8;refine A9 ?_)|(apply C8;refine D7 O O ?_)|(apply F5;refine F8 O O ?_;refine F4 (o5 O (o5 O O)) ?_)|(apply D5;refine D9 O O ?_)|(apply G6;refine G7 (D8 O O) O ?_)|(apply M4;refine M8 (l7 O O O (by omega) (by omega)) O ?_)|(apply I9;refine J7 (F6 O O) O ?_)|(apply K5;first|(refine s_call (AS6 O O O) O ?_)|refine s_call (U2 O O) O ?_ |refine s_call (B75 O O O O) O ?_))|(apply A7))
  apply J6
  case hs=>repeat (first|exact Le.nil _|refine Le.cons O ?_)
  case hH=>exact(fun _ hw=>hw.sub O0)
  case hI=>
   repeat' split
   all_goals omega
 intro nn hnn
 repeat' (first|(apply E8;first|(apply A8;refine A9 ?_)|(apply C8;refine D7 O O ?_)|(apply F5;refine F8 O O ?_;refine F4 (o5 O (o5 O O)) ?_)|(apply D5;refine D9 O O ?_)|(apply G6;refine G7 (D8 O O) O ?_)|(apply M4;refine M8 (l7 O O O (by omega) (by omega)) O ?_)|(apply I9;refine J7 (F6 O O) O ?_)|(apply r9;refine AL0 (AD6 (hx1 _ (by omega)) O O O O (by omega) (by omega) (by omega)) O ?_))|(apply D6)|((fail_if_success (refine J5 (id:=3) ?_));apply A7)|(apply C9))
 refine y5 (α:=Unit) (fun _=>[(0,.pointer (some ⟨wb,0,none⟩)),(1,.int .i64 1),(7,.string d)]) (fun _=> .blk wb 66 (wirC C0 C1 s0 r)::H) (fun _=>True) ?_ ?_
 ·repeat' (first|(apply E8;first|(apply A8;refine A9 ?_)|(apply F5;refine F8 O O ?_;refine F4 (o5 O (o5 O O)) ?_)|(apply H8;refine AE9 O O O O O (AF1 O (AF1 O O)) (by rw[AU3];decide) O ?_))|(apply Q0;refine N8 (k:=0) (fun _ hw=>hw.sub O0) ?_)|(apply U3;first|(refine L8 O ?_)|(refine O4 O O O O (by kernel_rfl) (by decide+kernel) (by decide+kernel) ?_;first|(apply O1;refine G9 (P9 O O) ?_)|(apply M3;refine G9 (D8 O O) ?_)|(apply AF3;refine G9 (l7 O O O (by omega) (by omega)) ?_)|(apply R5;refine G9 (F6 O O) ?_)|(apply Aa7;refine G9 (AD6 (hx2 _ (by omega)) O O O O (by omega) (by omega) (by omega)) ?_))|(refine O5 O ?_)|(refine N9 (by decide+kernel) ?_)|(refine Q6 (by kernel_rfl) ?_))|(apply V3;first|(refine Q5 O)|(refine U1 (by decide+kernel) ?_)|(refine Q3 O ?_ ?_))|(refine J5 (id:=3) ?_;refine q8 (b:=wb) ?_))
  all_goals exact J6 () trivial Q7 (fun _ hw=>hw.sub O0)
 rintro ⟨⟩-
 repeat' (first|(apply E8;first|(apply A8;refine A9 ?_)|(apply C8;refine D7 O O ?_)|(apply E5;refine F7 O O O ?_;refine F9 O ?_)|(apply D5;refine D9 O O ?_)|(apply H5;first|refine H6 O O O (cE _) O O ?_ |(refine c_call O O O (cH _ (fun _ hw=>hw.sub O0)) O O ?_;rintro _ _ ⟨E,C,s,rfl,rfl,hE⟩)))|(apply D6)|(apply I4)|(apply A7)|(apply C9))
 refine I8 _ (by (exact .inr O)) O (fun _ hw=>hw) ?_
 exact⟨E,C,s,O,O,hE⟩
end
def two:List Value:=cliZ++cliZ
def wirZ:List Value:=two++[.string .empty,.string .empty]
theorem Ar7:two.length=1226:=by unfold two;rw[List.length_append,AD0]
theorem A57:wirZ.length=1228:=by unfold wirZ;rw[List.length_append,Ar7];rfl
theorem B46:OffsT Tryz.prog 63 [(0,613),(613,613)] two:=⟨fun i=>some (i * 613,613),fun _=>by kernel_rfl,fun i p h=>by
 match i,h with
 | 0,h=>exact h
 | 1,h=>exact h⟩
theorem CA3:OffsT Tryz.prog 66 [(0,1226),(1226,2)] wirZ:=⟨(([(0,1226),(1226,2)]:List (Nat×Nat)).toArray[·]?),fun _=>by kernel_rfl,fun i p h=>by simpa using h⟩
instance CG4:ZeroT Tryz.prog 66 wirZ:=⟨_,show still Tryz.prog (zeroValue 66)=some (.agg wirZ.toArray) by kernel_rfl,.agg _⟩
theorem B30 {C0 C1:List Value} (h0:C0.length=613) (h1:C1.length=613):AB6 [(0,613),(613,613)] two [(0,C0),(1,C1)]=some (C0++C1):=by
 have e1:over two 0 C0=C0++cliZ:=by
  unfold over two
  rw[h0,List.take_zero,List.nil_append,Nat.zero_add,←AD0,List.drop_left]
 have e2:over (C0++cliZ) 613 C1=C0++C1:=by
  unfold over
  rw[h1,←h0,List.take_left,List.drop_of_length_le (by rw[List.length_append,AD0,h0];exact Nat.le_refl _),List.append_nil]
 rw[AN5 (off:=0) (sz:=613) rfl h0 (by decide) (by rw[Ar7];decide) e1,AN5 (off:=613) (sz:=613) rfl h1 (by decide) (by rw[List.length_append,h0,AD0];decide) e2]
 rfl
theorem Bt9 {C0 C1:List Value} (h0:C0.length=613) (h1:C1.length=613):AB6 [(0,1226),(1226,2)] wirZ [(0,C0++C1)]=some (wirC C0 C1 ⟨#[]⟩ ⟨#[]⟩):=by
 have hl:(C0++C1).length=1226:=by rw[List.length_append,h0,h1]
 have e1:over wirZ 0 (C0++C1)=wirC C0 C1 ⟨#[]⟩ ⟨#[]⟩:=by
  unfold over wirZ wirC big
  rw[hl,List.take_zero,List.nil_append,Nat.zero_add,←Ar7,List.drop_left,List.nil_append,List.nil_append,List.append_assoc]
  rfl
 rw[AN5 (off:=0) (sz:=1226) rfl hl (by decide) (by rw[A57];decide) e1]
 rfl
theorem Bx0 {C0 C1:List Value} (h0:C0.all (·.oneCell')=true) (h1:C1.all (·.oneCell')=true) (s0 s1:ByteArray):(wirC C0 C1 s0 s1).all (·.oneCell')=true:=x9 rfl h0 (x9 rfl h1 rfl)
abbrev xCl (S P:List Value):List Value:=wkG false e0 0 0 e0 e0 e0 S n00 P k00 (cliX ⟨#[]⟩ false)
theorem AQ4 {G:Ctx} {E:List Ent} {s:Scr} {S P:List Value} (h:CliS G E s S P) (cr:Bool) (zp:ByteArray) (za zb:Int) (zi zg zt:ByteArray):(wkG cr zp za zb zi zg zt S n00 P k00 (cliX ⟨#[]⟩ false)).length=613∧(wkG cr zp za zb zi zg zt S n00 P k00 (cliX ⟨#[]⟩ false)).all (·.oneCell')=true:=by
 haveI:Len n00 520:=⟨AL9 AJ0 rfl⟩
 haveI:Len k00 38:=⟨by rw[AC7];exact AB7 _⟩
 haveI:Len S 33:=⟨h.1.len⟩
 have hlP:P.length=3:=by obtain⟨_,_,_,_,h,-⟩:=h.2;rw[h];rfl
 have hP1:P.all (·.oneCell')=true:=by obtain⟨_,_,_,_,h,-⟩:=h.2;rw[h];rfl
 exact⟨AD3 hlP O O,x9 O h.1.one (x9 O (AF6 _ _) (x9 hP1 (AM2 _) O))⟩
def wayB (R:List Int) (n:Nat):ByteArray:=⟨((wayL R).drop n).toArray⟩
theorem AS3 (R:List Int) (n:Nat):(wayB R n).data.toList=(wayL R).drop n:=Ah5 _
theorem Aw5 (R:List Int) (n:Nat):(wayB R n).size=(wayL R).length-n:=by
 have h:(wayB R n).size=(wayB R n).data.toList.length:=Array.length_toList.symm
 rw[h,AS3,List.length_drop]
theorem B87 {R:List Int} (hR:∀x∈R,isR x):wayB R 0=wireT (encS R):=by
 have h:=(A69 (BF2 hR)).1
 apply ByteArray.ext
 apply Array.toList_inj.1
 rw[h]
 exact AS3 R 0
theorem ext_list (b:ByteArray) (i j:Nat):(b.extract i j).data.toList=(b.data.toList.take j).drop i:=by
 rw[ByteArray.data_extract,Array.toList_extract,List.extract_eq_take_drop,List.drop_take]
theorem BO5 (R:List Int) (n m:Nat):((wayB R n).extract 0 m).data.toList=((wayL R).drop n).take m:=by rw[ext_list,AS3,List.drop_zero]
theorem BS5 (R:List Int) (n m:Nat):(wayB R n).extract m (wayB R n).size=wayB R (n+m):=by
 apply ByteArray.ext
 apply Array.toList_inj.1
 rw[ext_list,AS3,AS3,Aw5,List.take_of_length_le (by rw[List.length_drop];exact Nat.le_refl _),List.drop_drop]
theorem Bf0 (l:List UInt8):(l.flatMap outB).length≤2 * l.length:=by
 induction l with
 | nil=>exact Nat.le_refl _
 | cons b l ih=>
   have e:(outB b).length≤2:=by
    unfold outB
    by_cases h:b=10
    ·rw[if_pos h];exact Nat.le_refl _
    rw[if_neg h]
    by_cases h:b=13
    ·rw[if_pos h];exact Nat.le_refl _
    ·rw[if_neg h];exact Nat.le_succ _
   rw[List.flatMap_cons,List.length_append,List.length_cons]
   omega
theorem BI5 {R:List Int} (h:R.length≤600):(wayL R).length≤4800:=by
 have h1:=Bf0 (encS R).data.toList
 have h2:(encS R).data.toList.length=(encL R).length:=by rw[←Ag7,AG4]
 have h3:=AF9 R
 unfold wayL
 omega
section
attribute [local irreducible] SW SL SQ AtQ SV SC BB LD PK Yields SO SOT SOA SY SP SPT SPA negC
theorem BP3 (G:Ctx) (H:List Ent) (b:Nat) (CY:List Value) [hY:Len CY 613] (A R:List Int) (hA:∀x∈A,isR x) (hl:A.length≤600) (name rune mods e:Int) (s s2:Scr) (hR:R.length≤9) (S P:List Value) (h:CliS G H s S P)
 (cD:∀(H:List Ent) (S P:List Value) (h:CliS G H s S P),SC Tryz.prog G 18 [.agg (xCl S P).toArray,.agg (evK name rune mods).toArray] H fun v H'=>∃S2 P2 E,v= .tuple #[.agg (xCl S2 P2).toArray,.string (wireT (encS R)),.int .i64 e]∧H'=E++H∧CliS G E s2 S2 P2):
 SC Tryz.prog G 8 [.pointer (some ⟨b,0,none⟩),.int .i64 0,.agg (evK name rune mods).toArray] (.blk b 66 (wirC (xCl S P) CY ⟨#[]⟩ (wireT (encS A)))::H) fun v H'=>∃S2 P2 E,v= .int .i64 e∧H'= .blk b 66 (wirC (xCl S2 P2) CY ⟨#[]⟩ (wireT (encS (A++R))))::(E++H)∧CliS G E s2 S2 P2:=by
 haveI:Len (xCl S P) 613:=⟨(AQ4 h _ _ _ _ _ _ _).1⟩
 have w1:=AP6 (encS A)
 have w2:=AP6 (encS R)
 rw[AS4] at w1 w2
 have w3:=AF9 A
 have w4:=AF9 R
 have hh:=BB8 G H b (xCl S P) CY ⟨#[]⟩ (wireT (encS A)) (by omega) (evK name rune mods) rfl rfl e (fun E C t=>∃S2 P2,C=xCl S2 P2∧t=wireT (encS R)∧CliS G E s2 S2 P2)
  (fun E C t ⟨S2,P2,h1,h2,h3⟩=>by
    obtain⟨k1,k2⟩:=AQ4 h3 false e0 0 0 e0 e0 e0
    subst h1 h2
    exact⟨k1,k2,by omega⟩)
  (fun H' hm=>by
    have hx:=cD H' S P (h.mono hm)
    exact AA7 hx fun v H'' ⟨S2,P2,E,e1,e2,e3⟩=>⟨E,_,_,e1,e2,S2,P2,O,O,e3⟩)
 refine AA7 hh fun v H' ⟨E,C,t,e1,e2,S2,P2,e3,e4,e5⟩=>⟨S2,P2,E,e1,?_,e5⟩
 rw[e2,e3,e4,AU9,BO7]
theorem Bu6 (G:Ctx) (hP:∀H,AB2 G H) (M:Int) (hM:∀H w,Holds G H w→w.cell? ⟨2,0,none⟩=some (.int .i64 M)) (hT:∀H w,Holds G H w→Lib.Utf8Tabs 0 1 w) (H:List Ent) (b:Nat) (CX:List Value) [hX:Len CX 613]
 (R:List Int) (hR:∀x∈R,isR x) (hl:R.length≤600) (s:Scr) (f:OkS s) (n0 k t:Nat) (hw:WayP R n0 k t) (S P:List Value) (h:CliS G H (yAt s R k) S P) (s0:ByteArray) (hs:s0.size≤100000000) (n:Int) (m:Nat) (hm:(m:Int)=max 0 (min n (min ((wayL R).length-n0:Nat) 4096))):
 SC Tryz.prog G 9 [.pointer (some ⟨b,0,none⟩),.int .i64 1,.int .i64 n] (.blk b 66 (wirC CX (yCl R n0 k t S P) s0 (wayB R n0))::H) fun v H'=>∃k' t' S2 P2 E s0',v= .bool true∧H'= .blk b 66 (wirC CX (yCl R (n0+m) k' t' S2 P2) s0' (wayB R (n0+m)))::(E++H)∧s0'.size≤s0.size+4000000∧CliS G E (yAt s R k') S2 P2∧WayP R (n0+m) k' t':=by
 haveI:Len (yCl R n0 k t S P) 613:=⟨(AQ4 h _ _ _ _ _ _ _).1⟩
 have hwl:=BI5 hl
 have hws:=Aw5 R n0
 have hh:=BN5 G H b CX (yCl R n0 k t S P) s0 (wayB R n0) (by omega) (by omega) n m (by rw[hws];exact hm) _ _ rfl (BS5 R n0 m) (fun E C t2=>∃k' t' S2 P2,C=yCl R (n0+m) k' t' S2 P2∧t2.size≤4000000∧CliS G E (yAt s R k') S2 P2∧WayP R (n0+m) k' t')
  (fun E C t2 ⟨k',t',S2,P2,h1,h2,h3,h4⟩=>by
    obtain⟨k1,k2⟩:=AQ4 h3 (wayC R (n0+m)) (zAt R k' t') (qAt R k').1 (qAt R k').2.1 (qAt R k').2.2.1 (qAt R k').2.2.2.1 (qAt R k').2.2.2.2
    subst h1
    exact⟨k1,k2,h2⟩)
  (fun H' hmm=>by
    have hx:=BP7 G hP M hM hT H' R hR hl s f n0 k t m hw (by omega) S P (h.mono hmm) _ (BO5 R n0 m)
    exact AA7 hx fun v H'' ⟨k',t',S2,P2,E,t2,e1,e2,e3,e4,e5⟩=>⟨E,_,t2,e1,e3,k',t',S2,P2,O,e2,e4,e5⟩)
 refine AA7 hh fun v H' ⟨E,C,t2,e1,e2,k',t',S2,P2,e3,e4,e5,e6⟩=>⟨k',t',S2,P2,E,s0++t2,e1,?_,?_,e5,e6⟩
 ·rw[e2,e3]
 ·rw[ByteArray.size_append];omega
end
def At2 (s:Scr):Scr:=runA s (runP w9 [120]).2
theorem Bf6 {s:Scr} (h:OkS s) (L:List Int):OkS (runA s (runP w9 L).2):=Aa5 h L
theorem BK4:(At2 (newS 3 1)).C=[(120,0,0,0),(32,0,0,0),(32,0,0,0)]:=by decide+kernel
theorem Bu5:runP w9 [120]=(w9,(runP w9 [120]).2):=by
 have e:(runP w9 [120]).1=w9:=by decide+kernel
 exact Prod.ext e O
theorem Bi8 (s:Scr):sentA s (runP w9 [120]).2=⟨#[]⟩:=by
 have e:(runP w9 [120]).2=[(1,120,0,e0,[],e0)]:=by decide+kernel
 rw[e];rfl
theorem BD8 (c:Int) (h:0≤c∧c<128):encS [c]=strOfNums [c]:=by
 unfold encS
 rw[AN2 _ (fun x hx=>by rw[List.mem_singleton] at hx;subst hx;exact h)]
section
attribute [local irreducible] SW SL SQ AtQ SV SC BB LD PK Yields SO SOT SOA SY SP SPT SPA negC
theorem livX (G:Ctx) (hP:∀H,AB2 G H) (H:List Ent) (M:Int) (hM:∀H w,Holds G H w→w.cell? ⟨2,0,none⟩=some (.int .i64 M)) (hT:∀H w,Holds G H w→Lib.Utf8Tabs 0 1 w) (s:Scr) (f:OkS s) (S P:List Value) (h:CliS G H s S P):
 SC Tryz.prog G 18 [.agg (wkC S (negC nW0 z8) P (octs kAll) (cliX ⟨#[]⟩ false)).toArray,.agg (evC 1 ⟨#[120]⟩ 0 0).toArray] H fun v H'=>∃S2 P2 E,v= .tuple #[.agg (wkC S2 (negC nW0 z8) P2 (octs kAll) (cliX ⟨#[]⟩ false)).toArray,.string ⟨#[]⟩,.int .i64 0]∧H'=E++H∧CliS G E (At2 s) S2 P2:=by
 have hff:noFF (⟨#[120]⟩:ByteArray):=by unfold noFF;decide
 have hr:∀x∈[(120:Int)],isR x:=fun x hx=>by rw[List.mem_singleton] at hx;subst hx;unfold isR;omega
 have hf:feedU e0 (⟨#[120]⟩:ByteArray)=(e0,[120],0):=by
  have h:=Ac4 hr
  rw[BD8 120 (by decide)] at h
  exact h
 have hB:=BX0 G hP M hM hT H false e0 0 0 e0 e0 e0 A02 s f S P h ⟨#[120]⟩ (by decide) hff false ⟨#[120]⟩ rfl rfl (by decide) e0 [120] hf (by decide) 0 0 e0 e0 e0 _ Bu5 (by
  have:=AR0 [120] w9
  have e:([120]:List Int).length=1:=rfl
  omega) (fun hz=>absurd hz (by decide))
 refine AA7 hB fun v H' ⟨S2,P2,E,t2,e1,_,e3,e4,e5⟩=>⟨S2,P2,E,?_,e3,e4⟩
 rw[e1,e5,Bi8]
 rfl
theorem livY (G:Ctx) (hP:∀H,AB2 G H) (H:List Ent) (M:Int) (hM:∀H w,Holds G H w→w.cell? ⟨2,0,none⟩=some (.int .i64 M)) (hT:∀H w,Holds G H w→Lib.Utf8Tabs 0 1 w) (s:Scr) (f:OkS s) (S P:List Value) (h:CliS G H s S P):
 SC Tryz.prog G 18 [.agg (wkC S (negC nW0 z8) P (octs kAll) (cliX ⟨#[]⟩ false)).toArray,.agg (evC 2 ⟨#[]⟩ 0 121).toArray] H fun v H'=>∃S2 P2 E,v= .tuple #[.agg (wkC S2 (negC nW0 z8) P2 (octs kAll) (cliX ⟨#[]⟩ false)).toArray,.string (⟨#[]⟩++⟨#[121]⟩),.int .i64 0]∧H'=E++H∧CliS G E (runA s (runP w9 [121]).2) S2 P2:=by
 have hr:∀x∈[(121:Int)],isR x:=fun x hx=>by rw[List.mem_singleton] at hx;subst hx;unfold isR;omega
 have hf:feedU e0 (⟨#[121]⟩:ByteArray)=(e0,[121],0):=by
  have h:=Ac4 hr
  rw[BD8 121 (by decide)] at h
  exact h
 have cK:=fun H'=>BF6 G H' 0 121 0 0 0 0 s.modes (by decide) (.inr rfl) (fun _=>by unfold isR;omega) (fun h=>absurd rfl h) (by decide+kernel) (by decide+kernel) (by decide+kernel)
 have hD:=BX5 G hP M hM hT H false e0 0 0 e0 e0 e0 A02 s f S P h 0 121 0 ⟨#[121]⟩ cK (by decide) ⟨#[121]⟩ rfl (by decide) e0 [121] 0 hf (by decide) (by
  have:=AR0 [121] w9
  have e:([121]:List Int).length=1:=rfl
  omega)
 have hw:wireT (⟨#[121]⟩:ByteArray)=⟨#[]⟩++⟨#[121]⟩:=by decide+kernel
 rw[hw] at hD
 exact hD
theorem Av8 (G:Ctx) (hP:∀H,AB2 G H) (H:List Ent) (M:Int) (hM:∀H w,Holds G H w→w.cell? ⟨2,0,none⟩=some (.int .i64 M)) (hT:∀H w,Holds G H w→Lib.Utf8Tabs 0 1 w):
 SV Tryz.prog G 6 [] H (.bool true):=by
 haveI:Len (negC nW0 z8) 520:=⟨AL9 AJ0 rfl⟩
 haveI:Len (octs kAll) 38:=⟨by rw[AC7];exact AB7 _⟩
 have f1:OkS (newS 3 1):=AU2 (by decide)
 have f2:OkS (At2 (newS 3 1)):=Bf6 f1 [120]
 have cF:∀H,SC Tryz.prog G 5 [.int .i64 3,.int .i64 1,.agg #[.int .u64 0,.int .u64 0,.int .u64 0,.int .u64 0,.int .u64 0,.int .u64 0,.int .u64 0,.int .u64 0]] H fun v H'=>∃S P E,v= .tuple #[.agg (wkC S (negC nW0 z8) P (octs kAll) (cliX ⟨#[]⟩ false)).toArray,.int .i64 0]∧H'=E++H∧CliS G E (newS 3 1) S P:=fun H=>AW7 G H 3 1 (by decide) (by decide) (fun _=>0)
 have cE:=fun H=>Aq2 G H ⟨#[120]⟩
 have cX0:=fun (H:List Ent) (S P:List Value) (E:List Ent) (hE:CliS G E (newS 3 1) S P) (hh:∀w,Holds G H w→Holds G E w)=>livX G hP H M hM hT (newS 3 1) f1 S P (hE.mono hh)
 have cY0:=fun (H:List Ent) (S P:List Value) (E:List Ent) (hE:CliS G E (At2 (newS 3 1)) S P) (hh:∀w,Holds G H w→Holds G E w)=>livY G hP H M hM hT (At2 (newS 3 1)) f2 S P (hE.mono hh)
 have hcell:∀(E:List Ent) (s:Scr) (S P:List Value) (h:CliS G E s S P),_:=fun E s S P h=>h.cells (negC nW0 z8) (octs kAll) (AF6 _ _) (AM2 _) ⟨#[]⟩ false
 have hz:=AD0
 have hxc:=BK4
 clear f1 f2
 generalize hs1:newS 3 1=s1 at *
 generalize hs2:At2 s1=s2 at *
 clear hM hT
 refine Au6 Tryz.func6 O O O O O ?_
 repeat' (first|(apply E8;first|(apply A8;refine A9 ?_)|(apply C8;refine D7 O O ?_)|(apply D5;refine D9 O O ?_)|(apply U7;refine X7 (M0 O O O) O ?_)|(apply U0;refine U6 (Q9 O O O) O ?_)|(apply H5;refine c_call O O O (cF _) O O ?_;rintro _ _ ⟨S,P,E,rfl,rfl,hE⟩;(obtain⟨hl,ho⟩:=hcell _ _ _ _ hE);(have cX:=fun H hh=>cX0 H S P E hE hh);(generalize hC:wkC S (negC nW0 z8) P (octs kAll) (cliX ⟨#[]⟩ false)=C at *))|(apply H8;refine y8 O O O O ho hl hz O ?_)|(apply O6;refine Q4 O O O O (fun _=>?_)))|(apply D6)|((fail_if_success (refine J5 (id:=2) ?_));apply A7)|(apply C9))
 rename_i b1
 have hlb:Nat.beq C.length 613=true:=by rw[hl];rfl
 refine y5 (α:=List Value×List Value×List Ent) (fun _=>[(1,.pointer (some ⟨b1,0,none⟩)),(2,.int .i64 0),(3,.string ⟨#[]⟩),(4,.int .i64 0)]) (fun g=> .blk b1 56 (wkC g.1 (negC nW0 z8) g.2.1 (octs kAll) (cliX ⟨#[]⟩ false))::(g.2.2++H)) (fun g=>CliS G g.2.2 s2 g.1 g.2.1) ?_ ?_
 ·repeat' (first|(apply E8;first|(apply A8;refine A9 ?_)|(apply F5;refine F8 O O ?_;refine M5 hlb ?_)|(apply H5;first|refine H6 O O O (cE _) O O ?_ |(refine c_call O O O (cX _ (fun _ hw=>hw.sub (by repeat (first|exact List.sublist_append_left _ _|refine List.Sublist.cons _ ?_)))) O O ?_;rintro _ _ ⟨S2,P2,E2,rfl,rfl,hE2⟩;(obtain⟨hl2,ho2⟩:=hcell _ _ _ _ hE2);(have cY:=fun H hh=>cY0 H S2 P2 E2 hE2 hh);(generalize hC2:wkC S2 (negC nW0 z8) P2 (octs kAll) (cliX ⟨#[]⟩ false)=C2 at *)))|(apply H8;refine y8 O O O O ho2 hl2 hl O ?_))|(apply Q0;refine N8 (k:=0) (fun _ hw=>hw.sub (by repeat (first|exact List.Sublist.refl _|refine List.Sublist.cons _ ?_ |refine List.Sublist.trans ?_ (List.sublist_append_right _ _)))) ?_)|(apply U3;first|(refine L8 O ?_)|(refine O4 O O O O (by kernel_rfl) (by decide+kernel) (by decide+kernel) ?_;first|(apply O1;refine G9 (P9 O O) ?_)|(apply AA4;refine G9 (o6 O O) ?_)|(apply AG3;refine G9 (M0 O O O) ?_))|(refine O5 O ?_)|(refine N9 (by decide+kernel) ?_)|(refine Q6 (by kernel_rfl) ?_))|(apply V3;first|(refine Q5 O)|(refine U1 (by decide+kernel) ?_)|(refine Q3 O ?_ ?_))|(refine J5 (id:=2) ?_;refine q8 (b:=b1) ?_))
  all_goals
   subst hC2
   exact J6 (S2,P2,E2) hE2 Q7 (fun _ hw=>hw.sub (by repeat (first|exact List.Sublist.refl _|refine List.Sublist.append (List.Sublist.refl _) ?_ |refine List.Sublist.cons_cons _ ?_ |refine List.Sublist.trans ?_ (List.sublist_append_right _ _))))
 rintro ⟨S2,P2,E2⟩ hE2
 dsimp only at hE2 ⊢
 (obtain⟨hl2,ho2⟩:=hcell _ _ _ _ hE2)
 have cY:=fun H hh=>cY0 H S2 P2 E2 hE2 hh
 obtain⟨ga,gn,gc,hS14,hgn,hr⟩:∃(ga:Option Addr) (gn gc:Nat),(wkC S2 (negC nW0 z8) P2 (octs kAll) (cliX ⟨#[]⟩ false))[14]? =some (.slice ga gn gc)∧gn=3∧RdC G E2 ga (qds [(120,0,0,0),(32,0,0,0),(32,0,0,0)]):=by
  obtain⟨⟨ga,gn,gc,oa,on,oc,pa,pn,pc,X,rfl,hS⟩,-⟩:=hE2
  have h1:=hS.g
  have h2:=hS.gn'
  rw[hxc] at h1 h2
  exact⟨ga,gn,gc,AN0 (by decide) O,h2,h1⟩
 subst hgn
 generalize hC2:wkC S2 (negC nW0 z8) P2 (octs kAll) (cliX ⟨#[]⟩ false)=C2 at *
 have hlb2:Nat.beq C2.length 613=true:=by rw[hl2];rfl
 clear cX hlb cX0 cY0 cF
 repeat' (first|(apply E8;first|(apply A8;refine A9 ?_)|(apply C8;refine D7 O O ?_)|(apply F5;refine F8 O O ?_;refine M5 hlb2 ?_)|(apply D5;refine D9 O O ?_)|(apply U7;refine X7 (M0 O O O) O ?_)|(apply U0;refine U6 (Q9 O O O) O ?_)|(apply H5;refine c_call O O O (cY _ (fun _ hw=>hw.sub (by repeat (first|exact List.sublist_append_left _ _|refine List.Sublist.cons _ ?_)))) O O ?_;rintro _ _ ⟨S3,P3,E3,rfl,rfl,hE3⟩;(obtain⟨hl3,ho3⟩:=hcell _ _ _ _ hE3);(generalize hC3:wkC S3 (negC nW0 z8) P3 (octs kAll) (cliX ⟨#[]⟩ false)=C3 at *))|(apply H8;refine y8 O O O O ho3 hl3 hz O ?_)|(apply O6;refine Q4 O O O O (fun _=>?_)))|(apply D6)|((fail_if_success (refine J5 (id:=4) ?_));apply A7)|(apply C9))
 rename_i b5
 have hin:∀w,Holds G (.blk b5 56 C3::(E3++ .blk b1 56 C2::(E2++H))) w→Holds G (.blk b1 56 C2::(E2++H)) w:=(fun _ hw=>hw.sub (by repeat (first|exact List.Sublist.refl _|refine List.Sublist.cons _ ?_ |refine List.Sublist.trans ?_ (List.sublist_append_right _ _))))
 refine Z5 _ hin ?_
 haveI hri:RdC G (.blk b1 56 C2::(E2++H)) ga (qds [(120,0,0,0),(32,0,0,0),(32,0,0,0)]):=⟨fun w hw=>hr.here w (hw.sub (.cons _ (List.sublist_append_left E2 H)))⟩
 have hlx:(qds [(120,0,0,0),(32,0,0,0),(32,0,0,0)]).length=3 * 4:=rfl
 have hel:(qds [(120,0,0,0),(32,0,0,0),(32,0,0,0)])[(0:Int).toNat * 4+0]? =some (.int .i64 120):=rfl
 generalize qds [(120,0,0,0),(32,0,0,0),(32,0,0,0)]=vs at *
 clear hE2 hr hin cY hE3 hE
 repeat' (first|(apply E8;first|(apply A8;refine A9 ?_)|(apply C8;refine D7 O O ?_)|(apply E5;refine F7 O O O ?_;first|(refine Bt6 O ?_)|(refine F9 O ?_))|(apply F5;refine F8 O O ?_;first|refine F4 hS14 ?_ |refine X8 hel ?_)|(apply D5;refine D9 O O ?_)|(apply I6;refine J4 O O ?_;apply P7;refine P6 O ?_)|(apply G6;first|refine G7 (D8 O O) O ?_ |refine G7 (AB5 O O) O ?_)|(apply M4;refine M8 (K7 O O O hlx (by omega) (by omega)) O ?_)|(apply K5;refine s_call (S9 O O) O ?_)|(apply I5;refine J9 O O O O ?_;apply I1)|(refine G7 (AO3 O O (by rw[hlx];decide)) O ?_))|(apply I4)|(apply A7)|(apply C9))
 refine N7 (by (exact .inr O)) O (.cons _ (List.sublist_append_right E2 H)) ?_
 rfl
end
def kyC (k:Int×Int×Int):List Value:=[.int .i64 k.1,.int .i64 k.2.1,.int .i64 k.2.2]
theorem BZ7:∀Ks:List (Int×Int×Int),(Ks.flatMap kyC).length=Ks.length * 3
 | []=>rfl
 | x::Ks=>by
   rw[List.flatMap_cons,List.length_append,BZ7 Ks,List.length_cons]
   show 3+_=_
   omega
theorem BE6:∀{Ks:List (Int×Int×Int)} {k:Nat} {x:Int×Int×Int},Ks[k]? =some x→take? ((Ks.flatMap kyC).drop (k * 3)) 3=some (kyC x)
 | y::Ks,0,x,h=>by
   cases h
   exact AM1 O O
 | y::Ks,k+1,x,h=>by
   have h:=BE6 (Ks:=Ks) (k:=k) (x:=x) h
   rw[List.flatMap_cons,List.drop_append,List.drop_of_length_le (show (kyC y).length≤(k+1) * 3 by show 3≤_;omega),List.nil_append]
   have e:(k+1) * 3-(kyC y).length=k * 3:=by show (k+1) * 3-3=_;omega
   rw[e]
   exact h
theorem AY4 {G:Ctx} {E:List Ent} {s:Scr} {S P:List Value} (h:CliS G E s S P):(xCl S P).length=613∧(xCl S P).all (·.oneCell')=true:=AQ4 h false e0 0 0 e0 e0 e0
theorem Bw4 {cl S r t:List Value} [hS:Len S 33] (h:cl.length=12):take? ((big [] (big cl S r) t).drop 12) 33=some S:=by
 have e:big [] (big cl S r) t=big cl S (r++t):=by unfold big;simp
 rw[e]
 exact AI2 h
theorem Br7 {G:Ctx} {x y z:Ent} {A B:List Ent} {w:World} (h:Holds G (x::y::(A++z::(B++[]))) w):Holds G (x::(B++(y::A))) w:=by
 have h1:Holds G (x::((y::A)++B)) w:=h.sub (by
  rw[List.append_nil]
  exact((((List.Sublist.refl B).cons z).append_left A).cons_cons y).cons_cons x)
 exact h1.perm (List.perm_append_comm.cons x)
section
attribute [local irreducible] SW SL SQ AtQ SV SC BB LD PK Yields SO SOT SOA SY SP SPT SPA negC
theorem Bj4 (G:Ctx) (H:List Ent) (s:Scr) (f:OkS s) {ga ga2 oa oa2 pa pa2:Option Addr} {gn gc on oc pn pc gn2 gc2 on2 oc2 pn2 pc2:Nat} {X X2:List (Rx Qd)} (h:ScRd G H s ga gn gc oa on oc pa pn pc X) (h':ScRd G H s ga2 gn2 gc2 oa2 on2 oc2 pa2 pn2 pc2 X2):SV Tryz.prog G 14 [.agg (scnC s ga gn gc oa on oc pa pn pc).toArray,.agg (scnC s ga2 gn2 gc2 oa2 on2 oc2 pa2 pn2 pc2).toArray] H (.bool true):=by
 have hg:=f.g.len
 have ho:=f.o.len
 have hz:=f.g.size
 have hzz:s.w * s.h≤160 * 60:=Nat.mul_le_mul (by omega) (by omega)
 have hx:X.map (·.2.2)=X2.map (·.2.2):=by rw[h.x,h'.x]
 have hl:=congrArg List.length hx
 rw[List.length_map,List.length_map] at hl
 have hp:=congrArg List.length h.x
 rw[List.length_map] at hp
 have hpp:=f.past
 have e1:gn2=gn:=by rw[h.gn',h'.gn']
 have e2:on2=on:=by rw[h.on',h'.on']
 have e3:pn2=pn:=by rw[h.pn',h'.pn',hl]
 subst e1 e2 e3
 haveI:=h.g
 haveI:=h'.g
 haveI:=h.o
 haveI:=h'.o
 haveI:=h.p
 haveI:=h'.p
 have a1:=h.gn'
 have a2:=h.on'
 have a3:=h.pn'
 exact BB6 G H s X X2 ga ga2 oa oa2 pa pa2 _ _ _ gc gc2 oc oc2 pc pc2 h.r h'.r h.gn' h.on' (by omega) (by omega) h.pn' (by omega) hx fun x hx2=>by
  have hm:x.2.2∈s.past:=by rw[←h.x];exact List.mem_map_of_mem hx2
  have:=(f.rows _ hm).size
  omega
theorem Az4 (G:Ctx) (M:Int) (hM:∀H w,Holds G H w→w.cell? ⟨2,0,none⟩=some (.int .i64 M)) (hT:∀H w,Holds G H w→Lib.Utf8Tabs 0 1 w) (hPw:∀H,AB2 G H) (Ks:List (Int×Int×Int)) (ka:Option Addr) (n kc:Nat) [ha:∀H,RdC G H ka (Ks.flatMap kyC)] (hn:n=Ks.length) (hn60:n≤60) (cut:Int):SV Tryz.prog G 3 [.slice ka n kc,.int .i64 cut] [] (.bool true):=by
 have cFX:∀H,SC Tryz.prog G 5 [.int .i64 4,.int .i64 2,.agg #[.int .u64 0,.int .u64 0,.int .u64 0,.int .u64 0,.int .u64 0,.int .u64 0,.int .u64 0,.int .u64 0]] H fun v H'=>∃S P E,v= .tuple #[.agg (xCl S P).toArray,.int .i64 0]∧H'=E++H∧CliS G E (newS 4 2) S P:=fun H=>AW7 G H 4 2 (by decide) (by decide) (fun _=>0)
 have cFY:∀H,SC Tryz.prog G 5 [.int .i64 6,.int .i64 2,.agg #[.int .u64 0,.int .u64 0,.int .u64 0,.int .u64 0,.int .u64 0,.int .u64 0,.int .u64 0,.int .u64 0]] H fun v H'=>∃S P E,v= .tuple #[.agg (xCl S P).toArray,.int .i64 0]∧H'=E++H∧CliS G E (newS 6 2) S P:=fun H=>AW7 G H 6 2 (by decide) (by decide) (fun _=>0)
 have cL:=fun H=>Av8 G hPw H M hM hT
 have fX:OkS (newS 4 2):=AU2 (by decide)
 have fY:OkS (newS 6 2):=AU2 (by decide)
 have hz0:=AD0
 have hzw:=A57
 have hlx:(Ks.flatMap kyC).length=n * 3:=by rw[BZ7,hn]
 generalize newS 4 2=sX at *
 generalize newS 6 2=sY at *
 refine R3 Tryz.func3 O O O O O ?_
 repeat' (first|(apply E8;first|(apply A8;refine A9 ?_)|(apply C8;refine D7 O O ?_)|(apply D5;refine D9 O O ?_)|(apply U7;refine X7 (M0 O O O) O ?_)|(apply U0;refine U6 (Q9 O O O) O ?_)|(apply H5;refine c_call O O O (cFX _) O O ?_;rintro _ _ ⟨SX,PX,EX,rfl,rfl,hEX⟩;(obtain⟨hlX,hoX⟩:=AY4 hEX))|(apply H8;refine y8 O O O O hoX hlX hz0 O ?_)|(apply O6;refine Q4 O O O O (fun _=>?_)))|(apply D6)|((fail_if_success (refine J5 (id:=2) ?_));apply A7)|(apply C9))
 rename_i b5
 generalize hCX:xCl SX PX=CX at *
 repeat' (first|(apply E8;first|(apply A8;refine A9 ?_)|(apply C8;refine D7 O O ?_)|(apply D5;refine D9 O O ?_)|(apply U7;refine X7 (M0 O O O) O ?_)|(apply U0;refine U6 (Q9 O O O) O ?_)|(apply H5;refine c_call O O O (cFY _) O O ?_;rintro _ _ ⟨SY,PY,EY,rfl,rfl,hEY⟩;(obtain⟨hlY,hoY⟩:=AY4 hEY))|(apply H8;refine y8 O O O O hoY hlY hz0 O ?_)|(apply O6;refine Q4 O O O O (fun _=>?_)))|(apply D6)|((fail_if_success (refine J5 (id:=3) ?_));apply A7)|(apply C9))
 rename_i b7
 generalize hCY:xCl SY PY=CY at *
 haveI:Len CX 613:=⟨hlX⟩
 haveI:Len CY 613:=⟨hlY⟩
 have hbX:Nat.beq CX.length 613=true:=by rw[hlX];rfl
 have hbY:Nat.beq CY.length 613=true:=by rw[hlY];rfl
 have h2:=B30 hlX hlY
 have h3:=Bt9 hlX hlY
 have hwl:(wirC CX CY ⟨#[]⟩ ⟨#[]⟩).length=1228:=AU3
 have hwo:=Bx0 hoX hoY ⟨#[]⟩ ⟨#[]⟩
 obtain⟨W0,hW0⟩:∃W,wirC CX CY ⟨#[]⟩ ⟨#[]⟩=W:=⟨_,rfl⟩
 rw[hW0] at h3 hwl hwo
 clear cFX cFY
 repeat' (first|(apply E8;first|(apply A8;refine A9 ?_)|(apply C8;refine D7 O O ?_)|(apply E5;refine F7 O O O ?_;refine F9 O ?_)|(apply F5;refine F8 O O ?_;first|refine M5 hbX ?_ |refine M5 hbY ?_)|(apply D5;refine D9 O O ?_)|(apply I6;refine J4 O O ?_;apply M6;refine M7 O ?_)|(apply X5;refine Z9 (Z8 O O O) O ?_)|(apply U0;first|(refine U6 (Q9 (h:=B46) O O h2) O ?_)|(refine U6 (Q9 (h:=CA3) O O h3) O ?_))|(apply H5;refine H6 O O O (cL _) O O ?_)|(apply K5;refine s_call (S9 O O) O ?_)|(apply H8;refine y8 O O O O hwo hwl hzw O ?_)|(apply O6;refine Q4 O O O O (fun _=>?_))|(apply I5;refine J9 O O O O ?_;apply I1))|(apply D6)|(apply G8)|((fail_if_success (refine J5 (id:=7) ?_));apply A7)|(refine G5 O ?_;apply E9<;>intro hq<;>(try (exfalso;omega)))|(apply C9))
 rename_i b9
 repeat' (first|(apply E8;first|(apply A8;refine A9 ?_)|(apply C8;refine D7 O O ?_)|(apply K5;refine s_call (S9 O O) O ?_))|(apply F3)|((fail_if_success (refine J5 (id:=8) ?_));apply A7)|(apply C9))
 refine R7 (α:=Nat×List Int×Scr×List Value×List Value×List Ent) (fun g=>[(1,.int .i64 cut),(7,.pointer (some ⟨b7,0,none⟩)),(9,.pointer (some ⟨b9,0,none⟩)),(10,.string (encS g.2.1)),(53,.slice ka n kc),(54,.int .i64 n),(55,.int .i64 g.1)])
  (fun g=> .blk b9 66 (wirC (xCl g.2.2.2.1 g.2.2.2.2.1) CY ⟨#[]⟩ (wireT (encS g.2.1)))::(g.2.2.2.2.2++(.blk b7 56 CY::EY)))
  (fun g=>g.1≤n∧(∀x∈g.2.1,isR x)∧g.2.1.length≤9 * g.1∧OkS g.2.2.1∧CliS G g.2.2.2.2.2 g.2.2.1 g.2.2.2.1 g.2.2.2.2.1) (fun g=>n-g.1) (0,[],sX,SX,PX,EX) ⟨Nat.zero_le _,(fun _ h=>nomatch h),Nat.zero_le _,fX,hEX⟩ (by repeat (first|exact Le.nil _|refine Le.cons (by first|rfl|(exact congrArg some (congrArg (Value.int _) (by omega)))) ?_)) (fun w hw=>by
    have e:W0=wirC (xCl SX PX) CY ⟨#[]⟩ (wireT (encS [])):=by rw[Bc7,BH1,hCX];exact hW0.symm
    rw[e] at hw
    exact Br7 hw) ?_
 clear hEX hW0 hwl hwo h3 h2 hCX hlX hoX hbX cL
 rintro ⟨k,A,s,S,P,E⟩ ⟨hk,hA,hAl,hs,hE⟩
 dsimp only at hk hA hAl hs hE ⊢
 haveI:Len (xCl S P) 613:=⟨(AY4 hE).1⟩
 by_cases hlt:(k:Int)<n
 ·obtain⟨⟨name,rune,mods⟩,hx⟩:∃x,Ks[k]? =some x:=⟨_,List.getElem?_eq_getElem (by omega)⟩
  have e1:take? ((Ks.flatMap kyC).drop ((k:Int).toNat * 3)) 3=some [.int .i64 name,.int .i64 rune,.int .i64 mods]:=by rw[Int.toNat_natCast];exact BE6 hx
  obtain⟨R,e,hR,hRl,cK,hOk,cD⟩:=B50 G hPw M hM hT s hs name rune mods
  have cH:=fun (H:List Ent) (hh:∀w,Holds G H w→Holds G E w)=>BP3 G H b9 CY A R hA (by omega) name rune mods e s _ hRl S P (hE.mono hh) cD
  have hv:(wirC (xCl S P) CY ⟨#[]⟩ (wireT (encS A)))[23]? =some (.int .i64 s.modes):=by
   haveI:Len S 33:=⟨hE.1.len⟩
   refine AN0 (Nat.zero_le _) ?_
   refine AN0 (Nat.le_of_ble_eq_true O) ?_
   exact hE.1.modes
  have hAR:encS A++encS R=encS (A++R):=(AU9 A R).symm
  have hz1:=AF9 A
  have hz2:=AF9 R
  rw[←AS4] at hz1 hz2
  have hAR2:∀x∈A++R,isR x:=fun x hx=>by
   rcases List.mem_append.1 hx with h|h
   ·exact hA x h
   ·exact hR x h
  have hARl:(A++R).length≤9 * (k+1):=by rw[List.length_append];omega
  generalize hWk:wirC (xCl S P) CY ⟨#[]⟩ (wireT (encS A))=Wk at *
  generalize hAs:encS A=As at *
  generalize hRs:encS R=Rs at *
  clear hx cD hWk hM hT hPw
  repeat' (first|(apply E8;first|(apply A8;refine A9 ?_)|(apply C8;refine D7 O O ?_)|(apply E5;refine F7 O O O ?_;first|(refine AD4 hAR (by omega) ?_)|(first|(apply K9;refine L6 ⟨by omega,by omega⟩ ?_)|refine F9 O ?_))|(apply F5;first|(refine F8 O O ?_;refine M5 O ?_)|(refine F8 O O ?_;first|refine l6 e1 O ?_ |refine F4 hv ?_))|(apply D5;refine D9 O O ?_)|(apply G6;first|refine G7 (D8 O O) O ?_ |refine G7 (AB5 O O) O ?_)|(apply U7;refine X7 (M0 O O O) O ?_)|(apply U0;refine U6 (Q9 O O O) O ?_)|(apply M4;first|(refine M8 (K7 O O O hlx (by omega) (by omega)) O ?_)|(refine M8 (l7 O O O (by omega) (by omega)) O ?_))|(apply H5;first|refine H6 O O O (cK _) O O ?_ |(refine c_call O O O (AJ8 (tb:=b9) (cH _ (fun _ hw=>hw.sub (by repeat (first|exact List.sublist_append_left _ _|refine List.Sublist.cons _ ?_))))) O O ?_;rintro _ _ ⟨S2,P2,E2,rfl,rfl,hE2⟩))|(apply H8;refine Q8 O O O O O O O O ?_)|(apply O6;refine Q4 O O O O (fun _=>?_)))|(apply D6)|(apply G8)|(apply F3)|((fail_if_success (refine J5 (id:=12) ?_));apply A7)|(refine G5 O ?_;first|(apply E9<;>intro hq<;>(try (exfalso;omega)))|(apply Y7<;>intro hq<;>(try (exfalso;omega))))|(apply C9)|(apply H9))
  exact J6 (k+1,A++R,_,S2,P2,E2) ⟨⟨by omega,hAR2,hARl,hOk,hE2⟩,by show n-(k+1)<n-k;omega⟩ Q7 (fun _ hw=>hw.sub (by repeat (first|exact List.Sublist.refl _|refine List.Sublist.append (List.Sublist.refl _) ?_ |refine List.Sublist.cons_cons _ ?_ |refine List.Sublist.cons _ ?_ |refine List.Sublist.trans ?_ (List.sublist_append_right _ _))))
 ·have hkn:A.length≤600:=by omega
  have hsz:=AF9 A
  rw[←AS4] at hsz
  have hwl:=BI5 hkn
  have hw0:=WayP.zero A
  have hE0:CliS G EY (yAt sY A 0) SY PY:=hEY
  have hCY0:CY=yCl A 0 0 0 SY PY:=hCY.symm
  have cA:=fun (H:List Ent) (n0 k t:Nat) (hw:WayP A n0 k t) (Sx Px:List Value) (Ex:List Ent) (hEx:CliS G Ex (yAt sY A k) Sx Px) (hh:∀w,Holds G H w→Holds G Ex w) (s0:ByteArray) (hs0:s0.size≤100000000) (n:Int) (m:Nat) (hm:(m:Int)=max 0 (min n (min ((wayL A).length-n0:Nat) 4096)))=>Bu6 G hPw M hM hT H b9 (xCl S P) A hA hkn sY fY n0 k t hw Sx Px (hEx.mono hh) s0 hs0 n m hm
  obtain⟨m1,hm1⟩:∃m:Nat,(m:Int)=max 0 (min cut (min ((wayL A).length-0:Nat) 4096)):=⟨(max 0 (min cut (min ((wayL A).length-0:Nat) 4096))).toNat,by omega⟩
  obtain⟨m2,hm2⟩:∃m:Nat,(m:Int)=max (0:Int) (min 4096 (min ((wayL A).length-(0+m1):Nat) 4096)):=⟨(max (0:Int) (min 4096 (min ((wayL A).length-(0+m1):Nat) 4096))).toNat,by omega⟩
  obtain⟨m3,hm3⟩:∃m:Nat,(m:Int)=max (0:Int) (min 4096 (min ((wayL A).length-(0+m1+m2):Nat) 4096)):=⟨(max (0:Int) (min 4096 (min ((wayL A).length-(0+m1+m2):Nat) 4096))).toNat,by omega⟩
  have hall:(wayL A).length≤0+m1+m2+m3:=by omega
  have cO:=fun H=>Ay2 G H (encS A) (by omega)
  have hOl:(strOfNums (p9 ((encS A).data.toList.flatMap outB))).data.toList=wayL A:=by rw[Ay3,Ah5];rfl
  have hOz:(strOfNums (p9 ((encS A).data.toList.flatMap outB))).size=(wayL A).length:=by rw[←hOl];exact Array.length_toList.symm
  have cI:=fun H=>A61 G H false (strOfNums (p9 ((encS A).data.toList.flatMap outB))) (by omega)
  have hIn:mIn false (wayL A)=(false,(encS A).data.toList):=As7 _
  have hIs:strOfNums (p9 (encS A).data.toList)=encS A:=by rw[Ag7];rfl
  rw[hOl,hIn] at cI
  dsimp only at cI
  rw[hIs] at cI
  have cU:=fun H=>Aq7 G H hT ⟨#[]⟩ (encS A) (by decide) (by omega)
  have hfa:feedU (⟨#[]⟩:ByteArray) (encS A)=(⟨#[]⟩,A,0):=Ac4 hA
  rw[hfa] at cU
  dsimp only at cU
  obtain⟨ga,gn,gc,oa,on,oc,pa,pn,pc,X,hSY,hSr⟩:=hEY.1
  have hrl:=AR0 A w9
  have cW:=fun (H:List Ent) (hh:∀w,Holds G H w→Holds G EY w) (ao:Option Addr) (co:Nat) (h4:RdC G H ao (ints A))=>A29 G hPw H M hM sY fY X ga gn gc oa on oc pa pn pc (hSr.mono hh) A (by omega) A01 ao A.length co rfl (by omega)
  rw[←hSY] at cW
  haveI hSYl:Len SY 33:=⟨hEY.1.len⟩
  have hpY:take? (CY.drop 12) 33=some SY:=by rw[←hCY];exact AI2 O
  have hfin:∀k3 t3,WayP A (0+m1+m2+m3) k3 t3→yAt sY A k3=runA sY (runP w9 A).2:=fun k3 t3 h=>by
   obtain⟨-,h2,-⟩:=h.all hA hall
   unfold yAt
   rw[h2,List.take_length]
  have fZ:=Aa5 fY A
  have hB:wirC (xCl S P) CY ⟨#[]⟩ (wireT (encS A))=wirC (xCl S P) (yCl A 0 0 0 SY PY) ⟨#[]⟩ (wayB A 0):=by rw[←B87 hA,hCY0]
  refine Z5 (.blk b9 66 (wirC (xCl S P) (yCl A 0 0 0 SY PY) ⟨#[]⟩ (wayB A 0))::(E++(.blk b7 56 CY::EY))) (fun w hw=>by rw[hB] at hw;exact hw) ?_
  clear hB hCY0 hOl hOz hIn hIs hfa hsz hrl hwl hSr hall
  generalize strOfNums (p9 ((encS A).data.toList.flatMap outB))=wo at *
  repeat' (first|(apply E8;first|(apply A8;refine A9 ?_)|(apply C8;refine D7 O O ?_)|(apply E5;refine F7 O O O ?_;refine F9 O ?_)|(apply I6;refine J4 O O ?_;apply M6;refine M7 O ?_)|(apply X5;refine Z9 (Z8 O O O) O ?_)|(apply H5;first|(refine c_call O O O (AJ8 (tb:=b9) (cA _ (0+m1+m2) k2 t2 hw2 S2 P2 E2 hE2 (fun _ hw=>hw.sub (by repeat (exact List.sublist_append_left _ _))) s2 (by omega) 4096 m3 hm3)) O O ?_;rintro _ _ ⟨k3,t3,S3,P3,E3,s3,rfl,rfl,hs3,hE3,hw3⟩)|(refine c_call O O O (AJ8 (tb:=b9) (cA _ (0+m1) k1 t1 hw1 S1 P1 E1 hE1 (fun _ hw=>hw.sub (by repeat (exact List.sublist_append_left _ _))) s1 (by omega) 4096 m2 hm2)) O O ?_;rintro _ _ ⟨k2,t2,S2,P2,E2,s2,rfl,rfl,hs2,hE2,hw2⟩)|(refine c_call O O O (AJ8 (tb:=b9) (cA _ 0 0 0 hw0 SY PY EY hE0 (fun _ hw=>hw.sub (by repeat (first|exact List.Sublist.refl _|refine List.Sublist.cons _ ?_ |refine List.Sublist.trans ?_ (List.sublist_append_right _ _)))) ⟨#[]⟩ (by decide) cut m1 hm1)) O O ?_;rintro _ _ ⟨k1,t1,S1,P1,E1,s1,rfl,rfl,hs1,hE1,hw1⟩;(have hs1:s1.size≤4000000:=hs1)))|(apply I5;refine J9 O O O O ?_;apply I1))|(apply D6)|(apply G8)|(apply O7)|((fail_if_success (refine J5 (id:=17) ?_));apply A7)|(refine G5 O ?_;first|(apply H7)|(apply E9<;>intro hq<;>(try (exfalso;omega))))|(apply C9)|(apply K3)|(apply K4))
  have hy:=hfin k3 t3 hw3
  rw[hy] at hE3
  generalize runA sY (runP w9 A).2=sZ at *
  generalize sentA sY (runP w9 A).2=tZ at *
  obtain⟨ga3,gn3,gc3,oa3,on3,oc3,pa3,pn3,pc3,X3,hS3,hSr3⟩:=hE3.1
  haveI:Len S3 33:=⟨hE3.1.len⟩
  haveI:Len (yCl A (0+m1+m2+m3) k3 t3 S3 P3) 613:=⟨(AQ4 hE3 _ _ _ _ _ _ _).1⟩
  have hp9:take? ((wirC (xCl S P) (yCl A (0+m1+m2+m3) k3 t3 S3 P3) s3 (wayB A (0+m1+m2+m3))).drop 625) 33=some S3:=AD8 rfl (Bw4 rfl)
  have cS:=fun (H:List Ent) (hh:∀w,Holds G H w→Holds G E3 w) {ga4 oa4 pa4:Option Addr} {gn4 gc4 on4 oc4 pn4 pc4:Nat} {X4:List (Rx Qd)} (h4:ScRd G H sZ ga4 gn4 gc4 oa4 on4 oc4 pa4 pn4 pc4 X4)=>Bj4 G H sZ fZ (hSr3.mono hh) h4
  rw[←hS3] at cS
  generalize wirC (xCl S P) (yCl A (0+m1+m2+m3) k3 t3 S3 P3) s3 (wayB A (0+m1+m2+m3))=W9 at *
  clear hS3 hSr3 hm1 hm2 hm3 hw1 hw2 hw3 hE1 hE2 cA hfin hy hs1 hs2 hs3 hE0 hw0
  repeat' (first|(apply E8;first|(apply A8;refine A9 ?_)|(apply C8;refine D7 O O ?_)|(apply E5;refine F7 O O O ?_;refine F9 O ?_)|(apply F5;first|(refine F8 O O ?_;refine M5 O ?_)|(refine F8 O O ?_;first|refine O9 hpY O ?_ |refine O9 hp9 O ?_))|(apply D5;refine D9 O O ?_)|(apply I6;refine J4 O O ?_;apply P7;refine P6 O ?_)|(apply G6;first|refine G7 (D8 O O) O ?_ |refine G7 (AB5 O O) O ?_)|(apply X5;refine Z9 (Z8 O O O) O ?_)|(apply U7;refine X7 (M0 O O O) O ?_)|(apply M4;refine M8 (l7 O O O (by omega) (by omega)) O ?_)|(apply H5;first|refine H6 O O O (cO _) O O ?_ |refine H6 O O O (cI _) O O ?_ |(refine c_call O O O (cU _) O O ?_;rintro _ _ ⟨ao,co,rfl,rfl⟩)|(refine c_call O O O (cW _ (fun _ hw=>hw.sub (by repeat (first|exact List.Sublist.refl _|refine List.Sublist.cons _ ?_ |refine List.Sublist.trans ?_ (List.sublist_append_right _ _)))) ao co inferInstance) O O ?_;rintro _ _ ⟨ga4,gn4,gc4,oa4,on4,oc4,pa4,pn4,pc4,X4,E4,rfl,rfl,hSr4⟩)|refine H6 O O O (cS _ (fun _ hw=>hw.sub (by repeat (first|exact List.sublist_append_left _ _|refine List.Sublist.cons _ ?_ |refine List.Sublist.trans ?_ (List.sublist_append_right _ _)))) (hSr4.mono (fun _ hw=>hw.sub (by repeat (first|exact List.sublist_append_left _ _|refine List.Sublist.cons _ ?_))))) O O ?_)|(apply H8;refine Q8 O O O O O O O O ?_)|(apply O6;refine Q4 O O O O (fun _=>?_))|(apply I5;refine J9 O O O O ?_;apply I1))|(apply D6)|(apply I4)|(apply A7)|(apply C9))
  refine N7 (by (exact .inr O)) O (List.nil_sublist _) ?_
  rfl
theorem Az3 (G:Ctx) (M:Int) (hM:∀H w,Holds G H w→w.cell? ⟨2,0,none⟩=some (.int .i64 M)) (hT:∀H w,Holds G H w→Lib.Utf8Tabs 0 1 w) (hPw:∀H,AB2 G H) (ka:Option Addr) (n kc:Nat) (hn60:60<n) (cut:Int):SV Tryz.prog G 3 [.slice ka n kc,.int .i64 cut] [] (.bool true):=by
 have cFX:∀H,SC Tryz.prog G 5 [.int .i64 4,.int .i64 2,.agg #[.int .u64 0,.int .u64 0,.int .u64 0,.int .u64 0,.int .u64 0,.int .u64 0,.int .u64 0,.int .u64 0]] H fun v H'=>∃S P E,v= .tuple #[.agg (xCl S P).toArray,.int .i64 0]∧H'=E++H∧CliS G E (newS 4 2) S P:=fun H=>AW7 G H 4 2 (by decide) (by decide) (fun _=>0)
 have cFY:∀H,SC Tryz.prog G 5 [.int .i64 6,.int .i64 2,.agg #[.int .u64 0,.int .u64 0,.int .u64 0,.int .u64 0,.int .u64 0,.int .u64 0,.int .u64 0,.int .u64 0]] H fun v H'=>∃S P E,v= .tuple #[.agg (xCl S P).toArray,.int .i64 0]∧H'=E++H∧CliS G E (newS 6 2) S P:=fun H=>AW7 G H 6 2 (by decide) (by decide) (fun _=>0)
 have cL:=fun H=>Av8 G hPw H M hM hT
 have hz0:=AD0
 generalize newS 4 2=sX at *
 generalize newS 6 2=sY at *
 refine R3 Tryz.func3 O O O O O ?_
 repeat' (first|(apply E8;first|(apply A8;refine A9 ?_)|(apply C8;refine D7 O O ?_)|(apply D5;refine D9 O O ?_)|(apply U7;refine X7 (M0 O O O) O ?_)|(apply U0;refine U6 (Q9 O O O) O ?_)|(apply H5;refine c_call O O O (cFX _) O O ?_;rintro _ _ ⟨SX,PX,EX,rfl,rfl,hEX⟩;(obtain⟨hlX,hoX⟩:=AY4 hEX))|(apply H8;refine y8 O O O O hoX hlX hz0 O ?_)|(apply O6;refine Q4 O O O O (fun _=>?_)))|(apply D6)|((fail_if_success (refine J5 (id:=2) ?_));apply A7)|(apply C9))
 rename_i b5
 generalize hCX:xCl SX PX=CX at *
 repeat' (first|(apply E8;first|(apply A8;refine A9 ?_)|(apply C8;refine D7 O O ?_)|(apply D5;refine D9 O O ?_)|(apply U7;refine X7 (M0 O O O) O ?_)|(apply U0;refine U6 (Q9 O O O) O ?_)|(apply H5;refine c_call O O O (cFY _) O O ?_;rintro _ _ ⟨SY,PY,EY,rfl,rfl,hEY⟩;(obtain⟨hlY,hoY⟩:=AY4 hEY))|(apply H8;refine y8 O O O O hoY hlY hz0 O ?_)|(apply O6;refine Q4 O O O O (fun _=>?_)))|(apply D6)|((fail_if_success (refine J5 (id:=3) ?_));apply A7)|(apply C9))
 rename_i b7
 generalize hCY:xCl SY PY=CY at *
 repeat' (first|(apply E8;first|(apply A8;refine A9 ?_)|(apply C8;refine D7 O O ?_)|(apply E5;refine F7 O O O ?_;refine F9 O ?_)|(apply D5;refine D9 O O ?_)|(apply I6;refine J4 O O ?_;apply M6;refine M7 O ?_)|(apply X5;refine Z9 (Z8 O O O) O ?_)|(apply H5;refine H6 O O O (cL _) O O ?_)|(apply K5;refine s_call (S9 O O) O ?_)|(apply I5;refine J9 O O O O ?_;apply I1))|(apply D6)|(apply I4)|((fail_if_success (refine J5 (id:=5) ?_));apply A7)|(refine G5 O ?_;apply E9<;>intro hq<;>(try (exfalso;omega)))|(apply C9)|(apply J8))
 refine N7 (by (exact .inr O)) O (List.nil_sublist _) ?_
 rfl
end
end Go.Proofs.YtmmnimagbnlcmaaGreatDoor
