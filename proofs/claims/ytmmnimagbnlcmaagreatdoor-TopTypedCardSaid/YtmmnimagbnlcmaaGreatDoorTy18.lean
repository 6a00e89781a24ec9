/- Texts of this claim, merged: Tc4 Tc5 UtfV Drw17 Tc6 ParU TT1 TT2 TT3 TT4 TT5. -/
import Derived.Test.YtmmnimagbnlcmaaGreatDoorTy17
import Derived.Test.YtmmnimagbnlcmaaGreatDoorRows
import Derived.WalkKit
import Derived.WalkSpells
import Derived.WalkLawsBesides
import Derived.Handy
import Derived.Lib.Hide
import Derived.Laws.BitsAllLaws
import Derived.Deep.MidRow
import Derived.Deep.WholeRow
import Derived.BigQuiet
import Derived.Deep.QuietTactic
import Derived.Laws.CopyOwn
import Derived.StillTailTactics
import Derived.RegionTactic
import Derived.ChangeAlike
import Derived.Laws.AppendOwnNone
import Derived.Laws.MakeOwn
import Derived.Laws.IdiomStrings
import Derived.OrdersHeld
import Derived.Lib.SliceRun
import Derived.ChangeKeysEq
import Derived.Laws.CopyRow
import Derived.Lib.AppendStr
import Derived.ArgAppend
import Derived.Laws.RangeAny
import Derived.Maps.RangeRun
import Derived.Lib.Replace
import Derived.Lib.Join
import Derived.Lib.IndexLaws
import Derived.Lib.IndexMore
import Derived.Lib.SplitLaws
import Derived.Shelf.Strings.Builder1
import Derived.Shelf.Strings.Builder2
import Derived.Shelf.Strings.OnBuilder
import Derived.Shelf.Strings.Trim
import Derived.Shelf.Small.Utf8
import Derived.Shelf.Small.Strs
import Derived.Shelf.Strings.BuilderF
import Derived.Shelf.Strconv.Itoa0
import Derived.Shelf.Strconv.Itoa1
import Derived.Shelf.LaysM
import Derived.Shelf.Strconv.Itoa2
import Derived.Shelf.Strconv.Itoa3
import Derived.Shelf.Strings.Search1
import Derived.Shelf.Strings.Search2
import Derived.Shelf.Strings.Search3
import Derived.Shelf.Strings.Count
import Derived.Shelf.Strings.Shaped
import Derived.Shelf.Strings.LastIndex
import Derived.Shelf.Strings.Prefix
import Derived.Shelf.Strings.Split
import Derived.Shelf.Strings.Replace
import Derived.Shelf.Strings.SplitShaped
import Derived.Shelf.Strings.Runes
import Derived.Shelf.Strings.AsciiSet
import Derived.Shelf.Bits.Mul64
import Derived.Shelf.Strings.Repeat
import Derived.Shelf.Unicode.DecodeSlow
import Derived.Shelf.Unicode.DecodeAny
import Derived.Shelf.Unicode.ValidAny
import Derived.Test.YtmmnimagbnlcmaaGreatDoorProg
import Derived.Lib.Bytealg
import Derived.Lib.Repeat
import Derived.Lib.DecodeN
import Derived.Lib.ItoaNum
import Derived.Lib.AppendIntMem
import Derived.Lib.ItoaLen
import Derived.Lib.ValidU
import Derived.Lib.MapLaws
set_option maxRecDepth 100000
set_option maxHeartbeats 8000000
open Go Go.RowKit Go.Fw Go.Sx
namespace Go.Proofs.YtmmnimagbnlcmaaGreatDoor
abbrev evK (name rune mods:Int):List Value:=[.int .i64 2,.string ⟨#[]⟩,.int .i64 name,.int .i64 rune,.int .i64 mods,.int .i64 0,.int .i64 0,.int .i64 0,.int .i64 0,.bool false,.slice none 0 0,.int .i64 0,.int .i64 0,.bool false,.int .i64 0,.bool false]
section
attribute [local irreducible] SW SL SQ AtQ SV SC BB LD PK Yields SO SOT SOA SY SP SPT SPA negC
theorem Ba7 (G:Ctx) (H:List Ent) (cr:Bool) (zp:ByteArray) (za zb:Int) (zi zg zt:ByteArray) (cy:Bool) (yp:ByteArray) (ya yb:Int) (yi yg yt:ByteArray) (s2:Scr) (buf:ByteArray) (ed:Bool) (sent sent2:ByteArray) (wb:Nat) (S N:List Value) (p0 p1 p2:Value) (K:List Value) [hS:Len S 33] [hN:Len N 520] [hK:Len K 38]
 (d:ByteArray) (hd:d.size≤4096) (ho:(feedR 0 0 0 ⟨#[]⟩ false d).out=[(1,0,0,d)]) (hw:(feedR 0 0 0 ⟨#[]⟩ false d).mode=0∧(feedR 0 0 0 ⟨#[]⟩ false d).cmd=0∧(feedR 0 0 0 ⟨#[]⟩ false d).opt=0∧(feedR 0 0 0 ⟨#[]⟩ false d).buf=[]∧(feedR 0 0 0 ⟨#[]⟩ false d).over=false)
 (cD:∀H',(∀w,Holds G H' w→Holds G H w)→SC Tryz.prog G 130 [.pointer (some ⟨wb,0,none⟩),.string d] (.blk wb 135 (wkG cr zp za zb zi zg zt S N [p0,p1,p2] K (cliW buf ed sent))::H') fun v H''=>∃S' E,v=resV []∧H''= .blk wb 135 (wkG cy yp ya yb yi yg yt S' N [p0,p1,p2] K (cliW buf ed sent2))::(E++H')∧ScS G E s2 S'):
 SC Tryz.prog G 74 [.pointer (some ⟨wb,0,none⟩),.string d] (.blk wb 135 (wkG cr zp za zb zi zg zt S N [p0,p1,p2] K (cliW buf ed sent))::H) fun v H'=>∃S' E,v= .int .i64 0∧H'= .blk wb 135 (wkG cy yp ya yb yi yg yt S' N [p0,p1,p2] K (cliW buf ed sent2))::(E++H)∧ScS G E s2 S':=by
 have cF:∀H,SC Tryz.prog G 129 [wireV 0 0 0 ⟨#[]⟩ false,.string d] H (fun v H'=>∃a' c',v= .tuple #[wireV 0 0 0 ⟨#[]⟩ false,.slice a' 1 c',.int .i64 0]∧H'= .own 225 4 a' 1 c' (toks [(1,0,0,d)])::H):=fun H=>by
  have h:=BG3 G H 0 0 0 ⟨#[]⟩ false d (by decide+kernel) (by omega)
  obtain⟨e1,e2,e3,e4,e5⟩:=hw
  rw[ho] at h
  unfold wireR at h
  rw[e1,e2,e3,e4,e5,show strOfNums []=(⟨#[]⟩:ByteArray) from by decide+kernel] at h
  exact h
 have hlen:=AD3 (cr:=cr) (zp:=zp) (za:=za) (zb:=zb) (zi:=zi) (zg:=zg) (zt:=zt) (S:=S) (N:=N) (K:=K) (P:=[p0,p1,p2]) (E:=cliW buf ed sent) (k:=614) rfl rfl rfl
 have el0:take? ((toks [(1,0,0,d)]).drop ((0:Int).toNat * 4)) 4=some [.int .i64 1,.int .i64 0,.int .i64 0,.string d]:=rfl
 have hlx:(toks [(1,0,0,d)]).length=1 * 4:=rfl
 generalize toks [(1,0,0,d)]=vs at *
 clear ho hw
 refine I7 Tryz.func74 O O O O O ?_
 repeat' (first|(apply E8;first|(apply A8;refine A9 ?_)|(apply C8;refine D7 O O ?_)|(apply E5;refine F7 O O O ?_;refine F9 O ?_)|(apply F5;refine F8 O O ?_;first|refine M5 O ?_ |refine O9 O O ?_)|(apply D5;refine D9 O O ?_)|(apply G6;refine G7 (D8 O O) O ?_)|(apply U7;refine X7 (M0 O O O) O ?_)|(apply I9;refine J7 (F6 O O) O ?_)|(apply H5;refine c_call O O O (cF _) O O ?_;rintro _ _ ⟨a1,c1,rfl,rfl⟩)|(apply K5;first|refine s_call (S9 O O) O ?_ |refine s_call (U2 O O) O ?_)|(apply H8;first|refine Q8 O O O O O O O O ?_ |(refine AF4 (off:=0) (vs:=[.int .i64 0,.int .i64 0,.int .i64 0,.string ⟨#[]⟩,.bool false]) O O O O O O (by rw[hlen];exact Nat.le_of_ble_eq_true O) (Am5 O (List.cons_ne_nil _ _)) O ?_))|(apply O6;refine Q4 O O O O (fun _=>?_)))|(apply D6)|(apply G8)|(apply F3)|(apply A7)|(refine G5 O ?_;apply E9<;>intro hq<;>(try (exfalso;omega)))|(apply C9))
 rename_i b5
 refine Z5 (.blk wb 135 (wkG cr zp za zb zi zg zt S N [p0,p1,p2] K (cliW buf ed sent)):: .blk b5 24 [.int .i64 0,.int .i64 0,.int .i64 0,.string ⟨#[]⟩,.bool false]:: .own 225 4 a1 1 c1 vs::H) (fun _ hw=>hw) ?_
 clear cF
 refine Aa4 2 (Ac1 ?_)
 repeat' (first|(apply E8;first|(apply A8;refine A9 ?_)|(apply C8;refine D7 O O ?_)|(apply E5;refine F7 O O O ?_;first|(apply K9;refine L6 ⟨by omega,by omega⟩ ?_)|refine F9 O ?_)|(apply F5;first|(refine F8 O O ?_;refine F4 O ?_)|(refine F8 O O ?_;refine l6 el0 O ?_))|(apply D5;refine D9 O O ?_)|(apply G6;refine G7 (D8 O O) O ?_)|(apply M4;refine M8 (K7 O O O hlx (by omega) (by omega)) O ?_)|(apply H5;refine c_call O O O (AJ8 (tb:=wb) (cD _ J3)) O O ?_;rintro _ _ ⟨S',E,rfl,rfl,hS2⟩)|(apply H8;refine Q8 O O O O O O O O ?_)|(apply O6;refine Q4 O O O O (fun _=>?_)))|(apply D6)|(apply A60)|(apply G8)|(apply I4)|(apply O7)|(apply F3)|(apply A7)|(refine G5 O ?_;first|(apply I1)|(apply H7))|(apply C9)|(apply K3)|(apply H9)|(apply K4))
 rename_i bq
 refine I8 _ (by (exact .inr O)) O (fun _ hw=>hw) ?_
 exact⟨S',E++[.blk bq 225 [.int .i64 1,.int .i64 0,.int .i64 0,.string d],.blk b5 24 [.int .i64 0,.int .i64 0,.int .i64 0,.string ⟨#[]⟩,.bool false],.own 225 4 a1 1 c1 vs],O,by simp,hS2.mono (fun w hw=>hw.sub (List.sublist_append_left E _))⟩
theorem Ba8 (G:Ctx) (H:List Ent) (p:Value) (t:ByteArray) (e:Int) (he:e≠0):SV Tryz.prog G 75 [p,.string t,.int .i64 e] H (.int .i64 e):=by
 refine AF2 Tryz.func75 O O O O O ?_
 repeat' (first|(apply E8;first|(apply A8;refine A9 ?_)|(apply C8;refine D7 O O ?_)|(apply E5;refine F7 O O O ?_;refine F9 O ?_)|(apply D5;refine D9 O O ?_))|(apply D6)|(apply I4)|(apply A7)|(refine G5 O ?_;apply Y7<;>intro hq<;>(try (exfalso;omega)))|(apply C9)|(apply J8))
 refine N7 (by (exact .inr O)) O O0 ?_
 rfl
theorem BR7 (G:Ctx) (hP:∀H,AB2 G H) (H:List Ent) (cr:Bool) (zp:ByteArray) (za zb:Int) (zi zg zt:ByteArray) (M:Int) (hM:∀H w,Holds G H w→w.cell? ⟨2,0,none⟩=some (.int .i64 M)) (hT:∀H w,Holds G H w→Lib.Utf8Tabs 0 1 w)
 (s:Scr) (f:OkS s) (wb:Nat) (S N:List Value) (p0 p1 p2:Value) (K:List Value) [hN:Len N 520] [hK:Len K 38] (buf:ByteArray) (sent:ByteArray) (h:ScS G H s S)
 (u0 h1:Int) (hu0:N[0]? =some (.int .u8 u0)) (hu0':(u0==1)=false) (hh1:N[257]? =some (.int .u8 h1)) (hh1':(h1==1)=false)
 (t d1:ByteArray) (hd:t.size≤4000) (hd1:(⟨(t.data.toList.flatMap (fun b=>if b=13 then [13,10] else [b])).toArray⟩:ByteArray)=d1) (hd1':d1.size≤8000) (r:ByteArray) (L:List Int) (e:Int) (hf:feedU ⟨#[]⟩ d1=(r,L,e)) (hL:L.length≤100000) (ha:(runP w9 L).2.length≤10000) (hz:sent.size≤4000000):
 SC Tryz.prog G 75 [.pointer (some ⟨wb,0,none⟩),.string t,.int .i64 0] (.blk wb 135 (wkG cr zp za zb zi zg zt S N [p0,p1,p2] K (cliW buf false sent))::H) fun v H'=>∃S' E,v= .int .i64 0∧H'= .blk wb 135 (wkG cr zp za zb zi zg zt S' N [p0,p1,p2] K (cliW buf false (sent++wireT t)))::(E++H)∧ScS G E (runA s (runP w9 L).2) S':=by
 haveI hS:Len S 33:=⟨h.len⟩
 have cX:=fun (H:List Ent)=>A64 G H cr zp za zb zi zg zt M hM wb S N p0 p1 p2 K buf false sent u0 hu0 hu0' t _ _ (by omega) rfl (by have:=Ae9 t;omega) rfl hz (by have:=AP6 t;unfold wireT at this;omega)
 have hAns:wireT t=escS (strOfNums (p9 (t.data.toList.flatMap outB))):=rfl
 rw[←hAns] at cX
 have cI:=fun (sent:ByteArray) (H:List Ent) [HasBlk H wb 135 (wkG cr zp za zb zi zg zt S N [p0,p1,p2] K (cliW buf false sent))]=>BI4 G H cr zp za zb zi zg zt wb S N [p0,p1,p2] K (cliW buf false sent) 1 (by decide) h1 hh1 false hh1'
 have cD:=fun H' (hh:∀w,Holds G H' w→Holds G H w) sent=>BB9 G hP H' cr zp za zb zi zg zt M hM hT s f wb S N p0 p1 p2 K buf false sent (h.mono hh) t d1 hd hd1 hd1' r L e hf hL ha
 clear hd hd1 hd1' hf hL ha hT hu0 hh1 hM
 generalize wireT t=wt at *
 refine U4 Tryz.func75 O O O O O ?_
 repeat' (first|(apply E8;first|(apply A8;refine A9 ?_)|(apply C8;refine D7 O O ?_)|(apply E5;refine F7 O O O ?_;refine F9 O ?_)|(apply F5;refine F8 O O ?_;refine F4 (o5 O (o5 O (o5 O O))) ?_)|(apply D5;refine D9 O O ?_)|(apply I6;refine J4 O O ?_;apply M6;refine M7 O ?_)|(apply G6;refine G7 (D8 O O) O ?_)|(apply X5;refine Z9 (Z8 O O O) O ?_)|(apply I9;refine J7 (F6 O O) O ?_)|(apply H5;first|(refine c_call O O O (cX _) O O ?_;rintro _ _ ⟨rfl,rfl⟩)|refine H6 O O O (cI _ _) O O ?_ |(refine c_call O O O (cD _ J3 _) O O ?_;rintro _ _ ⟨S',E,rfl,rfl,hS2⟩))|(apply I5;refine J9 O O O O ?_;apply H7))|(apply D6)|(apply G8)|(apply I4)|(apply A7)|(refine G5 O ?_;first|(apply I1)|(apply H7))|(apply C9))
 refine I8 _ (by (exact .inr O)) O (fun _ hw=>hw) ?_
 exact⟨S',E,O,O,hS2⟩
theorem Bq9 (G:Ctx) (H:List Ent) (cr:Bool) (zp:ByteArray) (za zb:Int) (zi zg zt:ByteArray) (cy:Bool) (yp:ByteArray) (ya yb:Int) (yi yg yt:ByteArray) (wb:Nat) (S N P K E E2:List Value) [hS:Len S 33] (m:Int) (hm:S[11]? =some (.int .i64 m)) (d:ByteArray) (s':Scr)
 (cB:∀H',(∀w,Holds G H' w→Holds G H w)→SC Tryz.prog G 74 [.pointer (some ⟨wb,0,none⟩),.string d] (.blk wb 135 (wkG cr zp za zb zi zg zt S N P K E)::H') fun v H''=>∃S' F,v= .int .i64 0∧H''= .blk wb 135 (wkG cy yp ya yb yi yg yt S' N P K E2)::(F++H')∧ScS G F s' S'):
 SC Tryz.prog G 44 [.pointer (some ⟨wb,0,none⟩),.agg (evC 1 d 0 0).toArray] (.blk wb 135 (wkG cr zp za zb zi zg zt S N P K E)::H) fun v H'=>∃S' F,v= .int .i64 0∧H'= .blk wb 135 (wkG cy yp ya yb yi yg yt S' N P K E2)::(F++H)∧ScS G F s' S':=by
 have hv:(wkG cr zp za zb zi zg zt S N P K E)[23]? =some (.int .i64 m):=by
  refine AN0 (Nat.le_of_ble_eq_true O) ?_
  exact hm
 generalize wkG cr zp za zb zi zg zt S N P K E=cs at *
 refine I7 Tryz.func44 O O O O O ?_
 repeat' (first|(apply E8;first|(apply A8;refine A9 ?_)|(apply C8;refine D7 O O ?_)|(apply E5;refine F7 O O O ?_;refine F9 O ?_)|(apply F5;first|(refine F8 O O ?_;refine F4 O ?_)|(refine F8 O O ?_;refine F4 hv ?_))|(apply D5;refine D9 O O ?_)|(apply G6;first|refine G7 (D8 O O) O ?_ |refine G7 (AB5 O O) O ?_)|(apply I9;refine J7 (F6 O O) O ?_)|(apply H5;refine c_call O O O (AJ8 (tb:=wb) (cB _ J3)) O O ?_;rintro _ _ ⟨S',F,rfl,rfl,hS2⟩)|(apply K6;refine L9 O O O O O O (fun _=>?_)))|(apply D6)|(apply I4)|(apply F3)|(apply A7)|(refine G5 O ?_;apply I1)|(apply C9)|(apply J8)|(apply U5))
 rename_i b3
 refine I8 _ (by (exact .inr O)) O (fun _ hw=>hw) ?_
 exact⟨S',F++[.blk b3 76 (evC 1 d 0 0)],O,by simp,hS2.mono (fun w hw=>hw.sub (List.sublist_append_left F _))⟩
theorem Bu8 (G:Ctx) (H:List Ent) (cr:Bool) (zp:ByteArray) (za zb:Int) (zi zg zt:ByteArray) (wb:Nat) (S N P K E:List Value) [hS:Len S 33] (m:Int) (hm:S[11]? =some (.int .i64 m)) (name rune mods:Int) (t:ByteArray) (s':Scr) (E2:List Value)
 (cK:∀H',SV Tryz.prog G 7 [keyV name rune mods,.int .i64 m] H' (.tuple #[.string t,.int .i64 0]))
 (cT:∀H',(∀w,Holds G H' w→Holds G H w)→SC Tryz.prog G 75 [.pointer (some ⟨wb,0,none⟩),.string t,.int .i64 0] (.blk wb 135 (wkG cr zp za zb zi zg zt S N P K E)::H') fun v H''=>∃S' F,v= .int .i64 0∧H''= .blk wb 135 (wkG cr zp za zb zi zg zt S' N P K E2)::(F++H')∧ScS G F s' S'):
 SC Tryz.prog G 44 [.pointer (some ⟨wb,0,none⟩),.agg (evK name rune mods).toArray] (.blk wb 135 (wkG cr zp za zb zi zg zt S N P K E)::H) fun v H'=>∃S' F,v= .int .i64 0∧H'= .blk wb 135 (wkG cr zp za zb zi zg zt S' N P K E2)::(F++H)∧ScS G F s' S':=by
 have hv:(wkG cr zp za zb zi zg zt S N P K E)[23]? =some (.int .i64 m):=by
  refine AN0 (Nat.le_of_ble_eq_true O) ?_
  exact hm
 generalize wkG cr zp za zb zi zg zt S N P K E=cs at *
 refine I7 Tryz.func44 O O O O O ?_
 repeat' (first|(apply E8;first|(apply A8;refine A9 ?_)|(apply C8;refine D7 O O ?_)|(apply E5;refine F7 O O O ?_;refine F9 O ?_)|(apply F5;first|(refine F8 O O ?_;first|refine F4 O ?_ |refine O9 O O ?_)|(refine F8 O O ?_;refine F4 hv ?_))|(apply D5;refine D9 O O ?_)|(apply G6;first|refine G7 (D8 O O) O ?_ |refine G7 (AB5 O O) O ?_)|(apply U7;refine X7 (M0 O O O) O ?_)|(apply I9;refine J7 (F6 O O) O ?_)|(apply H5;first|refine H6 O O O (cK _) O O ?_ |(refine c_call O O O (AJ8 (tb:=wb) (cT _ J3)) O O ?_;rintro _ _ ⟨S',F,rfl,rfl,hS2⟩))|(apply K6;refine L9 O O O O O O (fun _=>?_)))|(apply D6)|(apply I4)|(apply F3)|(apply A7)|(refine G5 O ?_;first|(apply I1)|(apply H7))|(apply C9)|(apply J8)|(apply U5))
 rename_i b3
 refine I8 _ (by (exact .inr O)) O (fun _ hw=>hw) ?_
 exact⟨S',F++[.blk b3 76 (evK name rune mods)],O,by simp,hS2.mono (fun w hw=>hw.sub (List.sublist_append_left F _))⟩
theorem B16 (G:Ctx) (H:List Ent) (cs:List Value) (wb:Nat) (m:Int) (hv:cs[23]? =some (.int .i64 m)) (name rune mods:Int) (t:ByteArray) (e:Int) (he:e≠0)
 (cK:∀H',SV Tryz.prog G 7 [keyV name rune mods,.int .i64 m] H' (.tuple #[.string t,.int .i64 e]))
 (cT:∀H',SV Tryz.prog G 75 [.pointer (some ⟨wb,0,none⟩),.string t,.int .i64 e] H' (.int .i64 e)):
 SC Tryz.prog G 44 [.pointer (some ⟨wb,0,none⟩),.agg (evK name rune mods).toArray] (.blk wb 135 cs::H) fun v H'=>∃F,v= .int .i64 e∧H'=F++H:=by
 refine I7 Tryz.func44 O O O O O ?_
 repeat' (first|(apply E8;first|(apply A8;refine A9 ?_)|(apply C8;refine D7 O O ?_)|(apply E5;refine F7 O O O ?_;refine F9 O ?_)|(apply F5;first|(refine F8 O O ?_;first|refine F4 O ?_ |refine O9 O O ?_)|(refine F8 O O ?_;refine F4 hv ?_))|(apply D5;refine D9 O O ?_)|(apply G6;first|refine G7 (D8 O O) O ?_ |refine G7 (AB5 O O) O ?_)|(apply U7;refine X7 (M0 O O O) O ?_)|(apply I9;refine J7 (F6 O O) O ?_)|(apply H5;first|refine H6 O O O (cK _) O O ?_ |refine H6 O O O (cT _) O O ?_)|(apply K6;refine L9 O O O O O O (fun _=>?_)))|(apply D6)|(apply I4)|(apply F3)|(apply A7)|(refine G5 O ?_;first|(apply I1)|(apply H7))|(apply C9)|(apply J8)|(apply U5))
 rename_i b3
 refine I8 _ (by (exact .inr O)) O (fun _ hw=>hw) ?_
 exact⟨[.blk b3 76 (evK name rune mods),.blk wb 135 cs],O,O⟩
theorem BW5 (G:Ctx) (H:List Ent) (cr:Bool) (zp:ByteArray) (za zb:Int) (zi zg zt:ByteArray) (wb:Nat) (S N:List Value) (p0 p1 p2:Value) (K:List Value) [hS:Len S 33] [hN:Len N 520] [hK:Len K 38] (buf:ByteArray) (ed:Bool) (sent:ByteArray):
 SC Tryz.prog G 74 [.pointer (some ⟨wb,0,none⟩),.string ⟨#[]⟩] (.blk wb 135 (wkG cr zp za zb zi zg zt S N [p0,p1,p2] K (cliW buf ed sent))::H) fun v H'=>∃E,v= .int .i64 0∧H'= .blk wb 135 (wkG cr zp za zb zi zg zt S N [p0,p1,p2] K (cliW buf ed sent))::(E++H):=by
 have cF:∀H,SC Tryz.prog G 129 [wireV 0 0 0 ⟨#[]⟩ false,.string ⟨#[]⟩] H (fun v H'=>∃a' c',v= .tuple #[wireV 0 0 0 ⟨#[]⟩ false,.slice a' 0 c',.int .i64 0]∧H'= .own 225 4 a' 0 c' (toks [])::H):=fun H=>by
  have h:=BG3 G H 0 0 0 ⟨#[]⟩ false ⟨#[]⟩ (by decide+kernel) (by decide)
  unfold wireR at h
  rw[show (feedR 0 0 0 ⟨#[]⟩ false ⟨#[]⟩).out=[] from by decide+kernel,show (feedR 0 0 0 ⟨#[]⟩ false ⟨#[]⟩).mode=0 from by decide+kernel,show (feedR 0 0 0 ⟨#[]⟩ false ⟨#[]⟩).cmd=0 from by decide+kernel,show (feedR 0 0 0 ⟨#[]⟩ false ⟨#[]⟩).opt=0 from by decide+kernel,show (feedR 0 0 0 ⟨#[]⟩ false ⟨#[]⟩).buf=[] from by decide+kernel,show (feedR 0 0 0 ⟨#[]⟩ false ⟨#[]⟩).over=false from by decide+kernel,show strOfNums []=(⟨#[]⟩:ByteArray) from by decide+kernel] at h
  exact h
 have hlen:=AD3 (cr:=cr) (zp:=zp) (za:=za) (zb:=zb) (zi:=zi) (zg:=zg) (zt:=zt) (S:=S) (N:=N) (K:=K) (P:=[p0,p1,p2]) (E:=cliW buf ed sent) (k:=614) rfl rfl rfl
 refine I7 Tryz.func74 O O O O O ?_
 repeat' (first|(apply E8;first|(apply A8;refine A9 ?_)|(apply C8;refine D7 O O ?_)|(apply E5;refine F7 O O O ?_;refine F9 O ?_)|(apply F5;refine F8 O O ?_;first|refine M5 O ?_ |refine O9 O O ?_)|(apply D5;refine D9 O O ?_)|(apply G6;refine G7 (D8 O O) O ?_)|(apply U7;refine X7 (M0 O O O) O ?_)|(apply I9;refine J7 (F6 O O) O ?_)|(apply H5;refine c_call O O O (cF _) O O ?_;rintro _ _ ⟨a1,c1,rfl,rfl⟩)|(apply K5;first|refine s_call (S9 O O) O ?_ |refine s_call (U2 O O) O ?_)|(apply H8;first|refine Q8 O O O O O O O O ?_ |(refine AF4 (off:=0) (vs:=[.int .i64 0,.int .i64 0,.int .i64 0,.string ⟨#[]⟩,.bool false]) O O O O O O (by rw[hlen];exact Nat.le_of_ble_eq_true O) (Am5 O (List.cons_ne_nil _ _)) O ?_))|(apply O6;refine Q4 O O O O (fun _=>?_)))|(apply D6)|(apply G8)|(apply F3)|(apply A7)|(refine G5 O ?_;apply H7)|(apply C9))
 rename_i b5
 refine Z5 (.blk wb 135 (wkG cr zp za zb zi zg zt S N [p0,p1,p2] K (cliW buf ed sent)):: .blk b5 24 [.int .i64 0,.int .i64 0,.int .i64 0,.string ⟨#[]⟩,.bool false]:: .own 225 4 a1 0 c1 (toks [])::H) (fun _ hw=>hw) ?_
 refine Aa4 1 (Ac1 ?_)
 repeat' (first|(apply E8;first|(apply A8;refine A9 ?_)|(apply E5;refine F7 O O O ?_;refine F9 O ?_)|(apply D5;refine D9 O O ?_))|(apply D6)|(apply I4)|(apply O7)|(apply A7)|(refine G5 O ?_;apply H7)|(apply C9)|(apply K3)|(apply K4))
 refine I8 _ (by (exact .inr O)) O (fun _ hw=>hw) ?_
 exact⟨[.blk b5 24 [.int .i64 0,.int .i64 0,.int .i64 0,.string ⟨#[]⟩,.bool false],.own 225 4 a1 0 c1 (toks [])],O,O⟩
theorem B54 (G:Ctx) (H:List Ent) (wb:Nat) (cs:List Value) (m:Int) (hv:cs[23]? =some (.int .i64 m))
 (cB:∀H',SC Tryz.prog G 74 [.pointer (some ⟨wb,0,none⟩),.string ⟨#[]⟩] (.blk wb 135 cs::H') fun v H''=>∃F,v= .int .i64 0∧H''= .blk wb 135 cs::(F++H')):
 SC Tryz.prog G 44 [.pointer (some ⟨wb,0,none⟩),.agg (evC 1 ⟨#[]⟩ 0 0).toArray] (.blk wb 135 cs::H) fun v H'=>∃F,v= .int .i64 0∧H'= .blk wb 135 cs::(F++H):=by
 refine I7 Tryz.func44 O O O O O ?_
 repeat' (first|(apply E8;first|(apply A8;refine A9 ?_)|(apply C8;refine D7 O O ?_)|(apply E5;refine F7 O O O ?_;refine F9 O ?_)|(apply F5;first|(refine F8 O O ?_;refine F4 O ?_)|(refine F8 O O ?_;refine F4 hv ?_))|(apply D5;refine D9 O O ?_)|(apply G6;first|refine G7 (D8 O O) O ?_ |refine G7 (AB5 O O) O ?_)|(apply I9;refine J7 (F6 O O) O ?_)|(apply H5;refine c_call O O O (AJ8 (tb:=wb) (cB _)) O O ?_;rintro _ _ ⟨F,rfl,rfl⟩)|(apply K6;refine L9 O O O O O O (fun _=>?_)))|(apply D6)|(apply I4)|(apply F3)|(apply A7)|(refine G5 O ?_;apply I1)|(apply C9)|(apply J8)|(apply U5))
 rename_i b3
 refine I8 _ (by (exact .inr O)) O (fun _ hw=>hw) ?_
 exact⟨F++[.blk b3 76 (evC 1 ⟨#[]⟩ 0 0)],O,by simp⟩
theorem Aa9 {cr:Bool} {zp:ByteArray} {za zb:Int} {zi zg zt:ByteArray} (S N P K:List Value) (buf sent:ByteArray) (ed:Bool):wkG cr zp za zb zi zg zt S N P K (cliX buf ed)++[.string sent]=wkG cr zp za zb zi zg zt S N P K (cliW buf ed sent):=by
 unfold wkG big
 simp only[List.append_assoc]
 rfl
theorem Bg5 {cr:Bool} {zp:ByteArray} {za zb:Int} {zi zg zt:ByteArray} (S N P K:List Value) (buf sent:ByteArray) (ed:Bool) (h:(wkG cr zp za zb zi zg zt S N P K (cliX buf ed)).length=613):take? ((wkG cr zp za zb zi zg zt S N P K (cliW buf ed sent)).drop 0) 613=some (wkG cr zp za zb zi zg zt S N P K (cliX buf ed)):=by
 refine AM1 h ?_
 rw[←Aa9,List.drop_zero,←h,List.take_left]
theorem As9 (G:Ctx) (H:List Ent) (cr:Bool) (zp:ByteArray) (za zb:Int) (zi zg zt:ByteArray) (cy:Bool) (yp:ByteArray) (ya yb:Int) (yi yg yt:ByteArray) (hzp:zp.size≤1000000) (hzu:chkU (nums zp)=0) (hzq:okP (za,zb,zi,zg,zt)) (hzi:zi.size≤1000000) (hzg:zg.size≤1000000) (M:Int) (hM:∀H w,Holds G H w→w.cell? ⟨2,0,none⟩=some (.int .i64 M)) (s s2:Scr) (f:OkS s) (S P N N2 K:List Value) [hN:Len N 520] [hN2:Len N2 520] [hK:Len K 38] (h:CliS G H s S P) (buf buf2:ByteArray) (ed ed2:Bool) (sent2:ByteArray) (hb:buf.size<1024) (hN1:N.all (·.oneCell')=true) (hN21:N2.all (·.oneCell')=true) (hK1:K.all (·.oneCell')=true)
 (cN:∀H':List Ent,SV Tryz.prog G 71 [.agg N.toArray] H' (.int .i64 0)) (cK:∀H':List Ent,SV Tryz.prog G 72 [.agg K.toArray] H' (.int .i64 0)) (ev:List Value) (hev:ev.length=16) (hev1:ev.all (·.oneCell')=true)
 (cD:∀(H':List Ent) (wb:Nat) (S' P':List Value),CliS G H' s S' P'→SC Tryz.prog G 44 [.pointer (some ⟨wb,0,none⟩),.agg ev.toArray] (.blk wb 135 (wkG cr zp za zb zi zg zt S' N P' K (cliW buf ed ⟨#[]⟩))::H') fun v H''=>∃S2 F,v= .int .i64 0∧H''= .blk wb 135 (wkG cy yp ya yb yi yg yt S2 N2 P' K (cliW buf2 ed2 sent2))::(F++H')∧(ScS G F s2 S2∨(S2=S'∧s2=s))):
 SC Tryz.prog G 18 [.agg (wkG cr zp za zb zi zg zt S N P K (cliX buf ed)).toArray,.agg ev.toArray] H fun v H'=>∃S2 P2 E,v= .tuple #[.agg (wkG cy yp ya yb yi yg yt S2 N2 P2 K (cliX buf2 ed2)).toArray,.string sent2,.int .i64 0]∧H'=E++H∧CliS G E s2 S2 P2:=by
 have cC:=fun (H':List Ent) (hh:∀w,Holds G H' w→Holds G H w)=>Af4 G H' cr zp za zb zi zg zt hzp hzu hzq hzi hzg s f S P N K (h.mono hh) buf ed hb M hM cN cK
 have cL:=fun (H':List Ent) (hh:∀w,Holds G H' w→Holds G H w)=>Af8 G H' cr zp za zb zi zg zt s f S P N K (h.mono hh) buf ed hN1 hK1
 have hS:Len S 33:=⟨h.1.len⟩
 obtain⟨na,nc,va,vc,hP,-⟩:=h.2
 have hlen:=AD3 (cr:=cr) (zp:=zp) (za:=za) (zb:=zb) (zi:=zi) (zg:=zg) (zt:=zt) (S:=S) (N:=N) (K:=K) (P:=P) (E:=cliX buf ed) (k:=613) (p:=3) (by rw[hP];rfl) rfl rfl
 have hlb:Nat.beq (wkG cr zp za zb zi zg zt S N P K (cliX buf ed)).length 613=true:=by rw[hlen];rfl
 have hvb:Nat.beq ev.length 16=true:=by rw[hev];rfl
 clear hP hM cN cK
 generalize hC:wkG cr zp za zb zi zg zt S N P K (cliX buf ed)=C at *
 refine I7 Tryz.func18 O O O O O ?_
 repeat' (first|(apply E8;first|(apply A8;refine A9 ?_)|(apply C8;refine D7 O O ?_)|(apply E5;refine F7 O O O ?_;refine F9 O ?_)|(apply F5;refine F8 O O ?_;refine M5 hlb ?_)|(apply D5;refine D9 O O ?_)|(apply H5;first|refine H6 O O O (cC _ J3) O O ?_ |(refine c_call O O O (cL _ J3) O O ?_;rintro _ _ ⟨S',P',E,rfl,rfl,hE⟩))|(apply K6;refine L9 O O O O O O (fun _=>?_))|(apply O6;refine Q4 O O O O (fun _=>?_)))|(apply D6)|(apply G8)|(apply A7)|(refine G5 O ?_;apply H7)|(apply C9))
 rename_i b2 b3 b4
 have hlP:P'.length=3:=by obtain⟨_,_,_,_,h,-⟩:=hE.2;rw[h];rfl
 haveI hS':Len S' 33:=⟨hE.1.len⟩
 have hl1:=AD3 (cr:=cr) (zp:=zp) (za:=za) (zb:=zb) (zi:=zi) (zg:=zg) (zt:=zt) (S:=S') (N:=N) (K:=K) (P:=P') (E:=cliX buf ed) (k:=613) hlP rfl rfl
 have hB:=A39 _ hl1
 rw[show Value.string ByteArray.empty=Value.string (⟨#[]⟩:ByteArray) from rfl,Aa9] at hB
 have hlP1:P'.all (·.oneCell')=true:=by obtain⟨_,_,_,_,h,-⟩:=hE.2;rw[h];rfl
 clear cC cL
 repeat' (first|(apply E8;first|(apply A8;refine A9 ?_)|(apply C8;refine D7 O O ?_)|(apply E5;refine F7 O O O ?_;refine F9 O ?_)|(apply F5;refine F8 O O ?_;refine M5 hvb ?_)|(apply D5;refine D9 O O ?_)|(apply U0;refine U6 (Q9 (h:=BH9) O O hB) O ?_)|(apply H5;refine c_call O O O (cD _ _ S' P' (hE.mono (fun w hw=>hw.sub (List.sublist_append_left E _)))) O O ?_;rintro _ _ ⟨S2,F,rfl,rfl,hF⟩)|(apply K6;refine L9 O O O O O O (fun _=>?_)))|(apply D6)|(apply G8)|((fail_if_success (refine J5 (id:=8) ?_));apply A7)|(refine G5 O ?_;apply H7)|(apply C9))
 rename_i wb
 have hS2:Len S2 33:=by
  rcases hF with hF|⟨rfl,-⟩
  ·exact⟨hF.len⟩
  ·exact hS'
 have hS21:S2.all (·.oneCell')=true:=by
  rcases hF with hF|⟨rfl,-⟩
  ·exact hF.one
  ·exact hE.1.one
 have hl2:=AD3 (cr:=cy) (zp:=yp) (za:=ya) (zb:=yb) (zi:=yi) (zg:=yg) (zt:=yt) (S:=S2) (N:=N2) (K:=K) (P:=P') (E:=cliX buf2 ed2) (k:=613) hlP rfl rfl
 have hl3:=AD3 (cr:=cy) (zp:=yp) (za:=ya) (zb:=yb) (zi:=yi) (zg:=yg) (zt:=yt) (S:=S2) (N:=N2) (K:=K) (P:=P') (E:=cliW buf2 ed2 sent2) (k:=614) hlP rfl rfl
 have hT:=Bg5 S2 N2 P' K buf2 sent2 ed2 hl2
 have h613:(wkG cy yp ya yb yi yg yt S2 N2 P' K (cliW buf2 ed2 sent2))[613]? =some (.string sent2):=by
  rw[←Aa9,List.getElem?_append_right (by rw[hl2];exact Nat.le_refl _),hl2]
  rfl
 have hone2:(wkG cy yp ya yb yi yg yt S2 N2 P' K (cliX buf2 ed2)).all (·.oneCell')=true:=x9 rfl hS21 (x9 rfl hN21 (x9 hlP1 hK1 rfl))
 generalize wkG cy yp ya yb yi yg yt S2 N2 P' K (cliW buf2 ed2 sent2)=W at *
 have hz:=AD0
 have hgo:∀w,Holds G ((F++E)++H) w→True:=fun _ _=>trivial
 have hC2:CliS G (F++E) s2 S2 P':=by
  refine⟨?_,?_⟩
  ·rcases hF with hF|⟨rfl,rfl⟩
   ·exact hF.mono (fun w hw=>hw.sub (List.sublist_append_left F E))
   ·exact hE.1.mono (fun w hw=>hw.sub (List.sublist_append_right F E))
  ·exact(hE.mono (fun w hw=>hw.sub (List.sublist_append_right F E))).2
 generalize hC2e:wkG cy yp ya yb yi yg yt S2 N2 P' K (cliX buf2 ed2)=C2 at *
 repeat' (first|(apply E8;first|(apply A8;refine A9 ?_)|(apply H8;refine y8 O O O O hone2 hl2 hz O ?_))|(apply Q0;refine N8 (k:=0) J3 ?_)|(apply U3;first|(refine L8 O ?_)|(refine O4 O O O O (by kernel_rfl) (by decide+kernel) (by decide+kernel) ?_;first|(apply O1;refine G9 (P9 O O) ?_)|(apply R9;refine R6 O ?_;first|refine O9 hT O ?_ |refine F4 h613 ?_)|(apply AA4;refine G9 (o6 O O) ?_)|(apply M3;refine G9 (D8 O O) ?_)|(apply R5;refine G9 (F6 O O) ?_))|(refine O5 O ?_)|(refine N9 (by decide+kernel) ?_)|(refine Q6 (by kernel_rfl) ?_))|(apply V3;first|(refine Q5 O)|(refine U1 (by decide+kernel) ?_)|(refine Q3 O ?_ ?_))|(apply I4)|(apply C9)|(refine J5 (id:=8) ?_;refine q8 (b:=b4) ?_))
 all_goals
  refine AB4 ((F++E)++H) (by (exact .inr O)) O hl2 O ?_ ⟨S2,P',F++E,by rw[hC2e];rfl,rfl,hC2⟩
 all_goals exact fun w hw=>hw.sub (by
  rw[List.append_assoc]
  exact List.Sublist.cons _ (List.Sublist.cons _ ((List.Sublist.refl F).append ((List.Sublist.refl E).append (List.Sublist.cons _ (List.Sublist.cons _ (List.Sublist.refl H)))))))
theorem Br4 (G:Ctx) (H:List Ent) (cr:Bool) (zp:ByteArray) (za zb:Int) (zi zg zt:ByteArray) (hzp:zp.size≤1000000) (hzu:chkU (nums zp)=0) (hzq:okP (za,zb,zi,zg,zt)) (hzi:zi.size≤1000000) (hzg:zg.size≤1000000) (M:Int) (hM:∀H w,Holds G H w→w.cell? ⟨2,0,none⟩=some (.int .i64 M)) (s:Scr) (f:OkS s) (S P N K:List Value) [hN:Len N 520] [hK:Len K 38] (h:CliS G H s S P) (buf:ByteArray) (ed:Bool) (hb:buf.size<1024) (hN1:N.all (·.oneCell')=true) (hK1:K.all (·.oneCell')=true)
 (cN:∀H':List Ent,SV Tryz.prog G 71 [.agg N.toArray] H' (.int .i64 0)) (cK:∀H':List Ent,SV Tryz.prog G 72 [.agg K.toArray] H' (.int .i64 0)) (ev:List Value) (hev:ev.length=16) (hev1:ev.all (·.oneCell')=true) (e:Int) (he:e≠0)
 (cD:∀(H':List Ent) (wb:Nat) (S' P':List Value),CliS G H' s S' P'→SC Tryz.prog G 44 [.pointer (some ⟨wb,0,none⟩),.agg ev.toArray] (.blk wb 135 (wkG cr zp za zb zi zg zt S' N P' K (cliW buf ed ⟨#[]⟩))::H') fun v H''=>∃F,v= .int .i64 e∧H''=F++H'):
 SC Tryz.prog G 18 [.agg (wkG cr zp za zb zi zg zt S N P K (cliX buf ed)).toArray,.agg ev.toArray] H fun v H'=>∃S2 P2 E,v= .tuple #[.agg (wkG cr zp za zb zi zg zt S2 N P2 K (cliX buf ed)).toArray,.string ⟨#[]⟩,.int .i64 e]∧H'=E++H∧CliS G E s S2 P2:=by
 have cC:=fun (H':List Ent) (hh:∀w,Holds G H' w→Holds G H w)=>Af4 G H' cr zp za zb zi zg zt hzp hzu hzq hzi hzg s f S P N K (h.mono hh) buf ed hb M hM cN cK
 have cL:=fun (H':List Ent) (hh:∀w,Holds G H' w→Holds G H w)=>Af8 G H' cr zp za zb zi zg zt s f S P N K (h.mono hh) buf ed hN1 hK1
 have hS:Len S 33:=⟨h.1.len⟩
 obtain⟨na,nc,va,vc,hP,-⟩:=h.2
 have hlen:=AD3 (cr:=cr) (zp:=zp) (za:=za) (zb:=zb) (zi:=zi) (zg:=zg) (zt:=zt) (S:=S) (N:=N) (K:=K) (P:=P) (E:=cliX buf ed) (k:=613) (p:=3) (by rw[hP];rfl) rfl rfl
 have hlb:Nat.beq (wkG cr zp za zb zi zg zt S N P K (cliX buf ed)).length 613=true:=by rw[hlen];rfl
 have hvb:Nat.beq ev.length 16=true:=by rw[hev];rfl
 clear hP hM cN cK
 generalize hC:wkG cr zp za zb zi zg zt S N P K (cliX buf ed)=C at *
 refine I7 Tryz.func18 O O O O O ?_
 repeat' (first|(apply E8;first|(apply A8;refine A9 ?_)|(apply C8;refine D7 O O ?_)|(apply E5;refine F7 O O O ?_;refine F9 O ?_)|(apply F5;refine F8 O O ?_;refine M5 hlb ?_)|(apply D5;refine D9 O O ?_)|(apply H5;first|refine H6 O O O (cC _ J3) O O ?_ |(refine c_call O O O (cL _ J3) O O ?_;rintro _ _ ⟨S',P',E,rfl,rfl,hE⟩))|(apply K6;refine L9 O O O O O O (fun _=>?_))|(apply O6;refine Q4 O O O O (fun _=>?_)))|(apply D6)|(apply G8)|(apply A7)|(refine G5 O ?_;apply H7)|(apply C9))
 rename_i b2 b3 b4
 have hlP:P'.length=3:=by obtain⟨_,_,_,_,h,-⟩:=hE.2;rw[h];rfl
 haveI hS':Len S' 33:=⟨hE.1.len⟩
 have hl1:=AD3 (cr:=cr) (zp:=zp) (za:=za) (zb:=zb) (zi:=zi) (zg:=zg) (zt:=zt) (S:=S') (N:=N) (K:=K) (P:=P') (E:=cliX buf ed) (k:=613) hlP rfl rfl
 have hB:=A39 _ hl1
 rw[show Value.string ByteArray.empty=Value.string (⟨#[]⟩:ByteArray) from rfl,Aa9] at hB
 have hlP1:P'.all (·.oneCell')=true:=by obtain⟨_,_,_,_,h,-⟩:=hE.2;rw[h];rfl
 have hz:=AD0
 repeat' (first|(apply E8;first|(apply A8;refine A9 ?_)|(apply C8;refine D7 O O ?_)|(apply E5;refine F7 O O O ?_;refine F9 O ?_)|(apply F5;refine F8 O O ?_;refine M5 hvb ?_)|(apply D5;refine D9 O O ?_)|(apply U0;refine U6 (Q9 (h:=BH9) O O hB) O ?_)|(apply H5;refine c_call O O O (cD _ _ S' P' (hE.mono (fun w hw=>hw.sub (List.sublist_append_left E _)))) O O ?_;rintro _ _ ⟨F,rfl,rfl⟩)|(apply K6;refine L9 O O O O O O (fun _=>?_)))|(apply D6)|((fail_if_success (refine J5 (id:=7) ?_));apply A7)|(refine G5 O ?_;apply Y7<;>intro hq<;>(try (exfalso;omega)))|(apply C9))
 have hH2:∀w,Holds G (F++(E++ .blk b4 56 cliZ:: .blk b3 76 ev:: .blk b2 56 C::H)) w→Holds G H w:=fun w hw=>hw.sub (((((List.sublist_cons_self _ _).trans (List.sublist_cons_self _ _)).trans (List.sublist_cons_self _ _)).trans (List.sublist_append_right E _)).trans (List.sublist_append_right F _))
 clear hB hl1 hlP hlP1
 have hfact:∀(S2 P2:List Value) (E2:List Ent),CliS G E2 s S2 P2→(wkG cr zp za zb zi zg zt S2 N P2 K (cliX buf ed)).length=613∧(wkG cr zp za zb zi zg zt S2 N P2 K (cliX buf ed)).all (·.oneCell')=true:=fun S2 P2 E2 h=>by
  haveI:Len S2 33:=⟨h.1.len⟩
  have h1:=h.1.one
  obtain⟨_,_,_,_,rfl,-⟩:=h.2
  exact⟨AD3 O O O,x9 O h1 (x9 O hN1 (x9 O hK1 O))⟩
 have cL2:=cL _ hH2
 repeat' (first|(apply E8;first|(apply A8;refine A9 ?_)|(apply C8;refine D7 O O ?_)|(apply F5;refine F8 O O ?_;refine M5 hlb ?_)|(apply D5;refine D9 O O ?_)|(apply H5;refine c_call O O O cL2 O O ?_;rintro _ _ ⟨S2,P2,E2,rfl,rfl,hE2⟩)|(apply H8;refine y8 O O O O (hfact _ _ _ hE2).2 (hfact _ _ _ hE2).1 hz O ?_))|(apply I4)|(apply A7)|(apply C9)|(apply J8))
 refine AB4 ((E2++(F++E))++H) (by (exact .inr O)) O (hfact _ _ _ hE2).1 O ?_ ⟨S2,P2,E2++(F++E),O,O,hE2.mono (fun w hw=>hw.sub (List.sublist_append_left E2 _))⟩
 exact fun w hw=>hw.sub (by
  rw[List.append_assoc,List.append_assoc]
  exact List.Sublist.cons _ ((List.Sublist.refl E2).append ((List.Sublist.refl F).append ((List.Sublist.refl E).append (List.Sublist.cons _ (List.Sublist.cons _ (List.Sublist.refl H)))))))
end
theorem AG8 {x:Int} (h:isR x):
 ((0≤x∧x<128)∧runeL x=[x])∨((128≤x∧x<2048)∧runeL x=[192+x / 64,128+x % 64])∨((2048≤x∧x<65536∧¬(55296≤x∧x≤57343))∧runeL x=[224+x / 4096,128+x / 64 % 64,128+x % 64])∨((65536≤x∧x≤1114111)∧runeL x=[240+x / 262144,128+x / 4096 % 64,128+x / 64 % 64,128+x % 64]):=by
 unfold isR at h
 unfold runeL
 by_cases h1:x<128
 ·exact .inl ⟨by omega,if_pos h1⟩
 by_cases h2:x<2048
 ·exact .inr (.inl ⟨by omega,by rw[if_neg h1,if_pos h2]⟩)
 by_cases h3:x<65536
 ·exact .inr (.inr (.inl ⟨by omega,by rw[if_neg h1,if_neg h2,if_pos h3]⟩))
 ·exact .inr (.inr (.inr ⟨by omega,by rw[if_neg h1,if_neg h2,if_neg h3]⟩))
theorem A13 {x:Int} (h:isR x):fixR x=x:=by rw[Bu2,if_pos h]
theorem AR6 (x:Int):1≤(runeL x).length:=by unfold runeL;split<;>(try split)<;>(try split)<;>simp
theorem Bv3 {x:Int} (h:isR x):wfU (runeL x)=true:=by
 rcases AG8 h with ⟨h,e⟩|⟨h,e⟩|⟨h,e⟩|⟨h,e⟩<;>rw[e]<;>simp only[wfU,decide_eq_true_eq]<;>omega
theorem Bd0 {x:Int} (h:isR x) (h2:¬x<128):valU (runeL x)=x:=by
 rcases AG8 h with ⟨h,e⟩|⟨h,e⟩|⟨h,e⟩|⟨h,e⟩
 ·omega
 all_goals
  rw[e]
  simp only[valU]
  omega
theorem Au5 {x:Int} (h:isR x) (B:List Int):(x<128→(runeL x++B).getD 0 0=x)∧(¬x<128→¬(runeL x++B).getD 0 0<128):=by
 rcases AG8 h with ⟨h,e⟩|⟨h,e⟩|⟨h,e⟩|⟨h,e⟩<;>rw[e]<;>simp<;>omega
theorem BW9 {x:Int} (h:isR x) (B:List Int):stepU (runeL x++B)=some (x,(runeL x).length):=by
 obtain⟨h1,h2⟩:=Au5 h B
 unfold stepU
 by_cases hx:x<128
 ·rw[if_pos (by rw[h1 hx];exact hx),h1 hx]
  rcases AG8 h with ⟨h,e⟩|⟨h,e⟩|⟨h,e⟩|⟨h,e⟩
  ·rw[e];rfl
  all_goals omega
 ·rw[if_neg (h2 hx)]
  have hw:=B25 (runeL x++B) (h2 hx) (runeL x).length (AR6 x) (by rw[List.length_append];omega) (AX4 x)
  rw[List.take_left',Bv3 h] at hw
  ·have hw2:=Bool.and_eq_true_iff.1 hw.symm
   have h3:=of_decide_eq_true hw2.2
   rw[if_pos hw2.1,←h3,Int.toNat_natCast,List.take_left',Bd0 h hx]
   rfl
  ·rfl
theorem Ab4 (R:List Int):∀x∈encL R,0≤x∧x≤255:=by
 intro x hx
 unfold encL at hx
 obtain⟨c,_,hc⟩:=List.mem_flatMap.1 hx
 have:=BK0 (fixR c) (by unfold fixR;split<;>omega) (by unfold fixR;split<;>omega) x hc
 omega
theorem Ak6 {a:Int} (h:(needU a).1≠0):longU [a]=(1,false):=by
 unfold longU
 rw[if_neg (by simpa using h),if_pos (by simp)]
theorem A07 {a b n lo hi:Int} (h:needU a=(n,lo,hi)) (hn:2≤n) (hb:lo≤b∧b≤hi):longU [a,b]=(2,false):=by
 unfold longU
 rw[show ([a,b]:List Int).getD 0 0=a from rfl,show ([a,b]:List Int).getD 1 0=b from rfl,h]
 dsimp only
 rw[if_neg (by omega),if_neg (by simp;omega),if_pos (by simp),decide_eq_false (by omega)]
theorem BK9 {a b c lo hi:Int} (h:needU a=(3,lo,hi)) (hb:lo≤b∧b≤hi) (hc:128≤c∧c≤191):longU [a,b,c]=(3,false):=by
 unfold longU
 rw[show ([a,b,c]:List Int).getD 0 0=a from rfl,show ([a,b,c]:List Int).getD 1 0=b from rfl,show ([a,b,c]:List Int).getD 2 0=c from rfl,h]
 dsimp only
 rw[if_neg (by omega),if_neg (by simp;omega),if_neg (by simp;omega),if_pos (by simp),decide_eq_false (by omega)]
theorem Au9 {x:Int} (h:isR x) {t:Nat} (h0:0<t) (ht:t<(runeL x).length):longU ((runeL x).take t)=((t:Int),false):=by
 rcases AG8 h with ⟨h1,e⟩|⟨h1,e⟩|⟨h1,e⟩|⟨h1,e⟩<;>rw[e] at ht ⊢<;>simp only[List.length_cons,List.length_nil] at ht
 ·omega
 ·obtain rfl:t=1:=by omega
  rcases AD5 (192+x / 64) with ⟨_,_,hn⟩|⟨h3,hn⟩|⟨h3,hn⟩|⟨_,_,_,hn⟩|⟨h3,hn⟩|⟨h3,hn⟩|⟨_,_,hn⟩|⟨_,hn⟩
  all_goals (exact Ak6 (by rw[hn];dsimp only;omega))
 ·obtain rfl|rfl:t=1∨t=2:=by omega
  ·rcases AD5 (224+x / 4096) with ⟨_,_,hn⟩|⟨h3,hn⟩|⟨h3,hn⟩|⟨_,_,_,hn⟩|⟨h3,hn⟩|⟨h3,hn⟩|⟨_,_,hn⟩|⟨_,hn⟩
   all_goals (exact Ak6 (by rw[hn];dsimp only;omega))
  ·rcases AD5 (224+x / 4096) with ⟨_,_,hn⟩|⟨h3,hn⟩|⟨h3,hn⟩|⟨_,_,_,hn⟩|⟨h3,hn⟩|⟨h3,hn⟩|⟨_,_,hn⟩|⟨_,hn⟩
   all_goals (first|(exfalso;omega)|(exact A07 hn (by omega) (by omega)))
 ·obtain rfl|rfl|rfl:t=1∨t=2∨t=3:=by omega
  ·rcases AD5 (240+x / 262144) with ⟨_,_,hn⟩|⟨h3,hn⟩|⟨h3,hn⟩|⟨_,_,_,hn⟩|⟨h3,hn⟩|⟨h3,hn⟩|⟨_,_,hn⟩|⟨_,hn⟩
   all_goals (first|(exfalso;omega)|(exact Ak6 (by rw[hn];dsimp only;omega)))
  ·rcases AD5 (240+x / 262144) with ⟨_,_,hn⟩|⟨h3,hn⟩|⟨h3,hn⟩|⟨_,_,_,hn⟩|⟨h3,hn⟩|⟨h3,hn⟩|⟨_,_,hn⟩|⟨_,hn⟩
   all_goals (first|(exfalso;omega)|(exact A07 hn (by omega) (by omega)))
  ·rcases AD5 (240+x / 262144) with ⟨_,_,hn⟩|⟨h3,hn⟩|⟨h3,hn⟩|⟨_,_,_,hn⟩|⟨h3,hn⟩|⟨h3,hn⟩|⟨_,_,hn⟩|⟨_,hn⟩
   all_goals (first|(exfalso;omega)|(exact BK9 hn (by omega) (by omega)))
theorem Bb8 {x:Int} (h:isR x) {t:Nat} (h0:0<t) (ht:t<(runeL x).length):stepU ((runeL x).take t)=none:=by
 have hl:=Au9 h h0 ht
 have hx:¬x<128:=fun hx=>by
  rcases AG8 h with ⟨h1,e⟩|⟨h1,e⟩|⟨h1,e⟩|⟨h1,e⟩
  ·rw[e] at ht
   simp at ht
   omega
  all_goals omega
 have hh:=(Au5 h []).2 hx
 rw[List.append_nil] at hh
 have e:((runeL x).take t).getD 0 0=(runeL x).getD 0 0:=by
  rw[List.getD_eq_getElem?_getD,List.getElem?_take_of_lt h0,List.getD_eq_getElem?_getD]
 unfold stepU
 rw[e,if_neg hh,hl]
 dsimp only
 rw[if_neg (by decide),if_pos ⟨by omega,by rw[List.length_take];omega⟩]
theorem AL4 {x:Int} {R:List Int} (h:isR x):encL (x::R)=runeL x++encL R:=by rw[Aw1,A13 h]
theorem BF1:∀(R:List Int) (n m:Nat),(∀x∈R,isR x)→n≤(encL R).length→n≤m→∃k,k≤R.length∧runU m ((encL R).take n)=((encL (R.drop k)).take (n-(encL (R.take k)).length),R.take k)∧(encL (R.take k)).length≤n∧(n=(encL (R.take k)).length∨∃x,R[k]? =some x∧n-(encL (R.take k)).length<(runeL x).length)
 | [],n,m,_,hn,_=>by
   have hz:(encL ([]:List Int)).length=0:=rfl
   obtain rfl:n=0:=by omega
   exact⟨0,Nat.le_refl _,by rw[List.take_zero,At4];rfl,Nat.le_refl _,.inl rfl⟩
 | x::R,n,m,hR,hn,hm=>by
   have hx:=hR x List.mem_cons_self
   have hp:=AR6 x
   rw[AL4 hx] at hn ⊢
   by_cases h1:n<(runeL x).length
   ·have e:(runeL x++encL R).take n=(runeL x).take n:=by rw[List.take_append_of_le_length (by omega)]
    refine⟨0,Nat.zero_le _,?_,Nat.zero_le _,.inr ⟨x,O,by show n-0<_;omega⟩⟩
    rw[List.drop_zero,AL4 hx,List.take_zero]
    show runU m ((runeL x++encL R).take n)=((runeL x++encL R).take (n-0),[])
    rw[e,Nat.sub_zero,e]
    by_cases h0:n=0
    ·subst h0
     rw[List.take_zero,At4]
    ·exact A95 m (fun e0=>by have h9:=congrArg List.length e0;rw[List.length_take,List.length_nil] at h9;omega) (Bb8 hx (by omega) h1)
   ·have e:(runeL x++encL R).take n=runeL x++(encL R).take (n-(runeL x).length):=by rw[List.take_append,List.take_of_length_le (by omega)]
    rw[List.length_append] at hn
    obtain⟨k,k1,k2,k3,k4⟩:=BF1 R (n-(runeL x).length) (m-1) (fun y hy=>hR y (List.mem_cons_of_mem _ hy)) (by omega) (by omega)
    have el:(encL ((x::R).take (k+1))).length=(runeL x).length+(encL (R.take k)).length:=by
     rw[List.take_succ_cons,AL4 hx,List.length_append]
    refine⟨k+1,by rw[List.length_cons];omega,?_,by rw[el];omega,?_⟩
    ·rw[e,Al0 (by omega) (fun e=>by rw[List.append_eq_nil_iff] at e;rw[e.1] at hp;simp at hp) (BW9 hx _),List.drop_left',k2,el,List.drop_succ_cons,List.take_succ_cons,show n-((runeL x).length+(encL (R.take k)).length)=n-(runeL x).length-(encL (R.take k)).length from by omega]
     rfl
    ·rw[el]
     rcases k4 with k4|⟨y,k4,k5⟩
     ·exact .inl (by omega)
     ·exact .inr ⟨y,by rw[List.getElem?_cons_succ];exact k4,by omega⟩
def partR (R:List Int) (t:Nat):Prop:=t=0∨∃x,R[0]? =some x∧t<(runeL x).length
theorem Aq8 (A B:List Int):encL (A++B)=encL A++encL B:=by unfold encL;rw[List.flatMap_append]
theorem A81 {R:List Int} {t:Nat} (hR:∀x∈R,isR x) (ht:partR R t):chkU ((encL R).take t)=0:=by
 rcases ht with rfl|⟨x,h1,h2⟩
 ·rw[List.take_zero]
  unfold chkU
  rw[if_pos (.inl rfl)]
 ·by_cases h0:t=0
  ·subst h0
   rw[List.take_zero]
   unfold chkU
   rw[if_pos (.inl rfl)]
  ·cases R with
   | nil=>cases h1
   | cons y R=>
     cases h1
     have hx:=hR x List.mem_cons_self
     have hl:=Au9 hx (by omega) h2
     rw[AL4 hx,List.take_append_of_le_length (by omega)]
     unfold chkU
     refine if_pos (.inr ?_)
     unfold partU
     rw[hl]
     exact⟨O,by rw[List.length_take];dsimp only;omega⟩
theorem Ay5 (R:List Int) (a b:Nat):∀x∈((encL R).drop a).take b,0≤x∧x≤255:=fun x hx=>Ab4 R x (List.mem_of_mem_drop (List.mem_of_mem_take hx))
theorem Ap4 {R:List Int} (hR:∀x∈R,isR x) {t c:Nat} (ht:partR R t) (hc:t+c≤(encL R).length):∃k t',feedU (strOfNums ((encL R).take t)) (strOfNums (((encL R).drop t).take c))=(strOfNums ((encL (R.drop k)).take t'),R.take k,0)∧partR (R.drop k) t'∧(encL (R.drop k)).drop t'=(encL R).drop (t+c)∧k≤R.length∧t'≤(encL (R.drop k)).length:=by
 have e1:nums (strOfNums ((encL R).take t))=(encL R).take t:=AE7 fun x hx=>Ab4 R x (List.mem_of_mem_take hx)
 have e2:nums (strOfNums (((encL R).drop t).take c))=((encL R).drop t).take c:=AE7 (Ay5 R t c)
 have e3:(encL R).take t++((encL R).drop t).take c=(encL R).take (t+c):=List.take_add.symm
 have ez:(strOfNums ((encL R).take t)++strOfNums (((encL R).drop t).take c)).size=t+c:=by
  rw[←nums_length,nums_append,e1,e2,e3,List.length_take]
  omega
 obtain⟨k,k1,k2,k3,k4⟩:=BF1 R (t+c) (t+c) hR hc (Nat.le_refl _)
 have es:encL R=encL (R.take k)++encL (R.drop k):=by rw[←Aq8,List.take_append_drop]
 refine⟨k,t+c-(encL (R.take k)).length,?_,?_,?_,k1,?_⟩
 ·unfold feedU
  rw[e1,A81 hR ht,if_neg (by simp),nums_append,e1,e2,e3,ez,k2]
 ·rcases k4 with k4|⟨x,k4,k5⟩
  ·exact .inl (by omega)
  ·exact .inr ⟨x,by rw[List.getElem?_drop];simpa using k4,k5⟩
 ·conv=>rhs;rw[es]
  rw[List.drop_append,List.drop_of_length_le k3,List.nil_append]
 ·have:=congrArg List.length es
  rw[List.length_append] at this
  omega
def noFF (d:ByteArray):Prop:=∀b∈d.data.toList,b≠255
theorem BF0:∀(l:List Int) (r:Rc),r.mode=0→(∀x∈l,x≠255)→l.foldl Rc.take r={r with data:=r.data++l}
 | [],r,_,_=>by rw[List.append_nil];rfl
 | x::l,r,hm,hl=>by
   have hx:=hl x List.mem_cons_self
   rw[List.foldl_cons]
   have e:r.take x={r with data:=r.data++[x]}:=by
    unfold Rc.take
    rw[if_pos hm,if_neg hx]
   rw[e,BF0 l {r with data:=r.data++[x]} hm fun y hy=>hl y (List.mem_cons_of_mem _ hy)]
   simp
theorem Bu3 {d:ByteArray} (h:noFF d) (hz:d.size≠0):(feedR 0 0 0 ⟨#[]⟩ false d).out=[(1,0,0,d)]∧(feedR 0 0 0 ⟨#[]⟩ false d).mode=0∧(feedR 0 0 0 ⟨#[]⟩ false d).cmd=0∧(feedR 0 0 0 ⟨#[]⟩ false d).opt=0∧(feedR 0 0 0 ⟨#[]⟩ false d).buf=[]∧(feedR 0 0 0 ⟨#[]⟩ false d).over=false:=by
 have hn:nums d≠[]:=fun e=>hz (by rw[←nums_length,e];rfl)
 have h255:∀x∈nums d,x≠255:=fun x hx=>by
  unfold nums at hx
  rw[List.mem_map] at hx
  obtain⟨b,hb,rfl⟩:=hx
  intro e
  have:b.toNat=255:=by omega
  exact h b hb (by rw[←UInt8.toNat_inj,this];rfl)
 have he:nums (⟨#[]⟩:ByteArray)=[]:=rfl
 unfold feedR
 rw[BF0 _ _ rfl h255,he]
 unfold Rc.flush
 rw[if_neg (show ¬([]++nums d)=[] from hn)]
 refine⟨?_,O,O,O,O,O⟩
 show []++[dtok ([]++nums d)]=_
 unfold dtok
 rw[List.nil_append,List.nil_append,AK0]
structure OkW (zp:ByteArray) (za zb:Int) (zi zg zt:ByteArray):Prop where
 z:zp.size≤100
 u:chkU (nums zp)=0
 p:okP (za,zb,zi,zg,zt)
 i:zi.size≤1000
 g:zg.size≤1000
 t:zt.size≤256
abbrev n00:List Value:=negC nW0 z8
abbrev k00:List Value:=octs kAll
section
attribute [local irreducible] SW SL SQ AtQ SV SC BB LD PK Yields SO SOT SOA SY SP SPT SPA negC
theorem chkN (G:Ctx):∀H':List Ent,SV Tryz.prog G 71 [.agg n00.toArray] H' (.int .i64 0):=fun H'=>by
 have h:=BD1 G H' nW0 z8 AJ0 rfl B68.1
 rwa [B81] at h
theorem chkK (G:Ctx):∀H':List Ent,SV Tryz.prog G 72 [.agg k00.toArray] H' (.int .i64 0):=fun H'=>by
 have h:=BC2 G H' kAll (AB7 _)
 rwa [Bz0] at h
theorem ScS.modes {G:Ctx} {E:List Ent} {s:Scr} {S:List Value} (h:ScS G E s S):S[11]? =some (.int .i64 s.modes):=by
 obtain⟨ga,gn,gc,oa,on,oc,pa,pn,pc,X,rfl,-⟩:=h
 rfl
theorem BX0 (G:Ctx) (hP:∀H,AB2 G H) (M:Int) (hM:∀H w,Holds G H w→w.cell? ⟨2,0,none⟩=some (.int .i64 M)) (hT:∀H w,Holds G H w→Lib.Utf8Tabs 0 1 w) (H:List Ent) (cr:Bool) (zp:ByteArray) (za zb:Int) (zi zg zt:ByteArray) (hz:OkW zp za zb zi zg zt) (s:Scr) (f:OkS s) (S P:List Value) (h:CliS G H s S P)
 (d:ByteArray) (hd:d.size≤4096) (hff:noFF d) (cy:Bool) (d2:ByteArray) (hi1:(mIn cr d.data.toList).1=cy) (hi2:strOfNums (p9 (mIn cr d.data.toList).2)=d2) (hd2:d2.size≤10000) (yp:ByteArray) (L:List Int) (hf:feedU zp d2=(yp,L,0)) (hL:L.length≤4000000) (ya yb:Int) (yi yg yt:ByteArray) (B:List Pa) (hR:runP (za,zb,zi,zg,zt) L=((ya,yb,yi,yg,yt),B)) (hB:B.length≤10000) (h0:d.size=0→cy=cr∧yp=zp∧(ya,yb,yi,yg,yt)=(za,zb,zi,zg,zt)∧B=[]):
 SC Tryz.prog G 18 [.agg (wkG cr zp za zb zi zg zt S n00 P k00 (cliX ⟨#[]⟩ false)).toArray,.agg (evC 1 d 0 0).toArray] H fun v H'=>∃S2 P2 E t2,v= .tuple #[.agg (wkG cy yp ya yb yi yg yt S2 n00 P2 k00 (cliX ⟨#[]⟩ false)).toArray,.string t2,.int .i64 0]∧t2.size≤4000000∧H'=E++H∧CliS G E (runA s B) S2 P2∧t2=sayT ⟨#[]⟩ (sentA s B):=by
 haveI:Len n00 520:=⟨AL9 AJ0 rfl⟩
 haveI:Len k00 38:=⟨by rw[AC7];exact AB7 _⟩
 obtain⟨a1,a2⟩:=BR4
 obtain⟨b1,b2,b3,b4,b5,b6⟩:=Bq1
 have hzp:=hz.z
 have hzi:=hz.i
 have hzg:=hz.g
 by_cases hz0:d.size=0
 ·obtain⟨rfl,rfl,he,rfl⟩:=h0 hz0
  simp only[Prod.mk.injEq] at he
  obtain⟨rfl,rfl,rfl,rfl,rfl⟩:=he
  obtain rfl:d=⟨#[]⟩:=AQ8.2 hz0
  refine AA7 (As9 G H cy yp ya yb yi yg yt cy yp ya yb yi yg yt (by omega) hz.u hz.p (by omega) (by omega) M hM s s f S P n00 n00 k00 h ⟨#[]⟩ ⟨#[]⟩ false false ⟨#[]⟩ (by decide) (AF6 _ _) (AF6 _ _) (AM2 _) (chkN G) (chkK G) (evC 1 ⟨#[]⟩ 0 0) O O (fun H' wb S' P' hS'=>?_)) fun v H'=>?_
  ·obtain⟨hs1,na,nc,va,vc,rfl,-⟩:=hS'
   haveI:Len S' 33:=⟨hs1.len⟩
   refine AA7 (B54 G H' wb _ s.modes (AN0 (Nat.le_of_ble_eq_true O) hs1.modes) (fun H2=>BW5 G H2 cy yp ya yb yi yg yt wb S' n00 _ _ _ k00 ⟨#[]⟩ false ⟨#[]⟩)) fun v H''=>?_
   rintro ⟨F,rfl,rfl⟩
   exact⟨S',F,O,O,.inr ⟨O,O⟩⟩
  ·rintro ⟨S2,P2,E,rfl,rfl,hE⟩
   exact⟨S2,P2,E,_,O,Nat.zero_le _,O,hE,O⟩
 ·obtain⟨o1,o2⟩:=Bu3 hff hz0
  have hin:=(AY6 (za,zb,zi,zg,zt) L hz.t).1
  rw[hR] at hin
  have hans:(sentA s B).size≤500000:=by
   have:=AT9 B f fun y hy=>(hin y hy).1
   omega
  have hsz:=BU5 ⟨#[]⟩ (sentA s B)
  have hsz0:(⟨#[]⟩:ByteArray).size=0:=rfl
  refine AA7 (As9 G H cr zp za zb zi zg zt cy yp ya yb yi yg yt (by omega) hz.u hz.p (by omega) (by omega) M hM s (runA s B) f S P n00 n00 k00 h ⟨#[]⟩ ⟨#[]⟩ false false (sayT ⟨#[]⟩ (sentA s B)) (by decide) (AF6 _ _) (AF6 _ _) (AM2 _) (chkN G) (chkK G) (evC 1 d 0 0) O O (fun H' wb S' P' hS'=>?_)) fun v H'=>?_
  ·obtain⟨hs1,na,nc,va,vc,rfl,-⟩:=hS'
   haveI:Len S' 33:=⟨hs1.len⟩
   refine AA7 (Bq9 G H' cr zp za zb zi zg zt cy yp ya yb yi yg yt wb S' n00 _ k00 _ _ s.modes hs1.modes d (runA s B) (fun H2 hh=>Ba7 G H2 cr zp za zb zi zg zt cy yp ya yb yi yg yt (runA s B) ⟨#[]⟩ false ⟨#[]⟩ (sayT ⟨#[]⟩ (sentA s B)) wb S' n00 _ _ _ k00 d hd o1 o2 (fun H3 hh3=>Bn3 G hP H3 M hM hT cr zp za zb zi zg zt (by omega) hz.p s f wb S' n00 _ _ _ k00 ⟨#[]⟩ false ⟨#[]⟩ (by decide) 0 (by rw[Ap1 z8 AJ0 0 (by decide),b2]) O hz.t (hs1.mono fun w hw=>hh w (hh3 w hw)) 0 (by rw[Ap1 z8 AJ0 256 (by decide),a1]) O d (by omega) cy d2 (by omega) hi1 hi2 yp L 0 hf hL ya yb yi yg yt B hR hB))) fun v H''=>?_
   rintro ⟨S2,F,rfl,rfl,hF⟩
   exact⟨S2,F,O,O,.inl hF⟩
  ·rintro ⟨S2,P2,E,rfl,rfl,hE⟩
   exact⟨S2,P2,E,_,O,by omega,rfl,hE,rfl⟩
theorem BX5 (G:Ctx) (hP:∀H,AB2 G H) (M:Int) (hM:∀H w,Holds G H w→w.cell? ⟨2,0,none⟩=some (.int .i64 M)) (hT:∀H w,Holds G H w→Lib.Utf8Tabs 0 1 w) (H:List Ent) (cr:Bool) (zp:ByteArray) (za zb:Int) (zi zg zt:ByteArray) (hz:OkW zp za zb zi zg zt) (s:Scr) (f:OkS s) (S P:List Value) (h:CliS G H s S P)
 (name rune mods:Int) (t:ByteArray) (cK:∀H',SV Tryz.prog G 7 [keyV name rune mods,.int .i64 s.modes] H' (.tuple #[.string t,.int .i64 0])) (ht:t.size≤4000) (d1:ByteArray) (hd1:(⟨(t.data.toList.flatMap (fun b=>if b=13 then [13,10] else [b])).toArray⟩:ByteArray)=d1) (hd1':d1.size≤8000) (r:ByteArray) (L:List Int) (e:Int) (hf:feedU ⟨#[]⟩ d1=(r,L,e)) (hL:L.length≤100000) (ha:(runP w9 L).2.length≤10000):
 SC Tryz.prog G 18 [.agg (wkG cr zp za zb zi zg zt S n00 P k00 (cliX ⟨#[]⟩ false)).toArray,.agg (evK name rune mods).toArray] H fun v H'=>∃S2 P2 E,v= .tuple #[.agg (wkG cr zp za zb zi zg zt S2 n00 P2 k00 (cliX ⟨#[]⟩ false)).toArray,.string (wireT t),.int .i64 0]∧H'=E++H∧CliS G E (runA s (runP w9 L).2) S2 P2:=by
 haveI:Len n00 520:=⟨AL9 AJ0 rfl⟩
 haveI:Len k00 38:=⟨by rw[AC7];exact AB7 _⟩
 obtain⟨a1,a2⟩:=BR4
 obtain⟨b1,b2,b3,b4,b5,b6⟩:=Bq1
 have hzp:=hz.z
 have hzi:=hz.i
 have hzg:=hz.g
 refine As9 G H cr zp za zb zi zg zt cr zp za zb zi zg zt (by omega) hz.u hz.p (by omega) (by omega) M hM s (runA s (runP w9 L).2) f S P n00 n00 k00 h ⟨#[]⟩ ⟨#[]⟩ false false (wireT t) (by decide) (AF6 _ _) (AF6 _ _) (AM2 _) (chkN G) (chkK G) (evK name rune mods) O O (fun H' wb S' P' hS'=>?_)
 obtain⟨hs1,na,nc,va,vc,rfl,-⟩:=hS'
 haveI:Len S' 33:=⟨hs1.len⟩
 have e0w:∀x:ByteArray,(⟨#[]⟩:ByteArray)++x=x:=BE0
 have cT:∀H2,(∀w,Holds G H2 w→Holds G H' w)→_:=fun H2 hh=>BR7 G hP H2 cr zp za zb zi zg zt M hM hT s f wb S' n00 (.slice na 1 nc) (.int .i64 0) (.slice va 0 vc) k00 ⟨#[]⟩ ⟨#[]⟩ (hs1.mono hh) 0 0 (by rw[Ap1 z8 AJ0 0 (by decide),b2]) rfl (by rw[Ap1 z8 AJ0 257 (by decide),a2]) rfl t d1 ht hd1 hd1' r L e hf hL ha (by decide)
 have h2:=Bu8 G H' cr zp za zb zi zg zt wb S' n00 [.slice na 1 nc,.int .i64 0,.slice va 0 vc] k00 (cliW ⟨#[]⟩ false ⟨#[]⟩) s.modes hs1.modes name rune mods t (runA s (runP w9 L).2) (cliW ⟨#[]⟩ false (⟨#[]⟩++wireT t)) cK
 have h3:=h2 cT
 clear h2
 rw[e0w] at h3
 refine AA7 h3 fun v H''=>?_
 rintro ⟨S2,F,rfl,rfl,hF⟩
 exact⟨S2,F,O,O,.inl hF⟩
theorem B60 (G:Ctx) (M:Int) (hM:∀H w,Holds G H w→w.cell? ⟨2,0,none⟩=some (.int .i64 M)) (H:List Ent) (cr:Bool) (zp:ByteArray) (za zb:Int) (zi zg zt:ByteArray) (hz:OkW zp za zb zi zg zt) (s:Scr) (f:OkS s) (S P:List Value) (h:CliS G H s S P)
 (name rune mods:Int) (t:ByteArray) (e:Int) (he:e≠0) (cK:∀H',SV Tryz.prog G 7 [keyV name rune mods,.int .i64 s.modes] H' (.tuple #[.string t,.int .i64 e])):
 SC Tryz.prog G 18 [.agg (wkG cr zp za zb zi zg zt S n00 P k00 (cliX ⟨#[]⟩ false)).toArray,.agg (evK name rune mods).toArray] H fun v H'=>∃S2 P2 E,v= .tuple #[.agg (wkG cr zp za zb zi zg zt S2 n00 P2 k00 (cliX ⟨#[]⟩ false)).toArray,.string ⟨#[]⟩,.int .i64 e]∧H'=E++H∧CliS G E s S2 P2:=by
 haveI:Len n00 520:=⟨AL9 AJ0 rfl⟩
 haveI:Len k00 38:=⟨by rw[AC7];exact AB7 _⟩
 have hzp:=hz.z
 have hzi:=hz.i
 have hzg:=hz.g
 refine Br4 G H cr zp za zb zi zg zt (by omega) hz.u hz.p (by omega) (by omega) M hM s f S P n00 k00 h ⟨#[]⟩ false (by decide) (AF6 _ _) (AM2 _) (chkN G) (chkK G) (evK name rune mods) O O e he (fun H' wb S' P' hS'=>?_)
 obtain⟨hs1,na,nc,va,vc,rfl,-⟩:=hS'
 haveI:Len S' 33:=⟨hs1.len⟩
 exact B16 G H' _ wb s.modes (AN0 (Nat.le_of_ble_eq_true O) hs1.modes) name rune mods t e he cK fun H2=>Ba8 G H2 _ t e he
end
theorem fold_acc:∀(L:List Int) (q:Ps) (acc:List Pa),L.foldl (fun z x=>((stepP z.1 x).1,z.2++(stepP z.1 x).2)) (q,acc)=((runP q L).1,acc++(runP q L).2)
 | [],q,acc=>by unfold runP;simp
 | x::L,q,acc=>by
   have h1:=fold_acc L (stepP q x).1 (acc++(stepP q x).2)
   have h2:=fold_acc L (stepP q x).1 ([]++(stepP q x).2)
   rw[List.foldl_cons]
   unfold runP
   rw[List.foldl_cons]
   refine h1.trans ?_
   rw[show L.foldl (fun z x=>((stepP z.1 x).1,z.2++(stepP z.1 x).2)) ((stepP (q,([]:List Pa)).1 x).1,(q,([]:List Pa)).2++(stepP (q,([]:List Pa)).1 x).2)=_ from h2]
   simp
theorem Am0 (p:Ps) (A B:List Int):runP p (A++B)=((runP (runP p A).1 B).1,(runP p A).2++(runP (runP p A).1 B).2):=by
 conv=>lhs;unfold runP
 rw[List.foldl_append]
 exact fold_acc B (runP p A).1 (runP p A).2
theorem AY8:∀(x y:List UInt8) (c:Bool),mIn c (x++y)=((mIn (mIn c x).1 y).1,(mIn c x).2++(mIn (mIn c x).1 y).2)
 | [],y,c=>by cases c<;>rfl
 | b::x,y,true=>by
   have h1:=AY8 x y false
   have h2:=AY8 x y true
   have e:∀l,mIn true (b::l)=if b=10 then ((mIn false l).1,10::(mIn false l).2) else if b=0 then ((mIn false l).1,13::(mIn false l).2) else if b=13 then ((mIn true l).1,13::(mIn true l).2) else ((mIn false l).1,13::b::(mIn false l).2):=fun l=>rfl
   rw[List.cons_append,e,e]
   by_cases g1:b=10
   ·rw[if_pos g1,if_pos g1,h1];rfl
   rw[if_neg g1,if_neg g1]
   by_cases g2:b=0
   ·rw[if_pos g2,if_pos g2,h1];rfl
   rw[if_neg g2,if_neg g2]
   by_cases g3:b=13
   ·rw[if_pos g3,if_pos g3,h2];rfl
   ·rw[if_neg g3,if_neg g3,h1];rfl
 | b::x,y,false=>by
   have h1:=AY8 x y false
   have h2:=AY8 x y true
   have e:∀l,mIn false (b::l)=if b=13 then mIn true l else ((mIn false l).1,b::(mIn false l).2):=fun l=>rfl
   rw[List.cons_append,e,e]
   by_cases g3:b=13
   ·rw[if_pos g3,if_pos g3,h2]
   ·rw[if_neg g3,if_neg g3,h1];rfl
theorem As7:∀l:List UInt8,mIn false (l.flatMap outB)=(false,l)
 | []=>rfl
 | b::l=>by
   have h:=As7 l
   rw[List.flatMap_cons]
   by_cases h10:b=10
   ·have eo:outB b=[13,10]:=by unfold outB;rw[if_pos h10]
    rw[eo,List.cons_append,List.cons_append,List.nil_append]
    subst h10
    show ((mIn false (l.flatMap outB)).1,(10:UInt8)::(mIn false (l.flatMap outB)).2)=_
    rw[h]
   by_cases h13:b=13
   ·have eo:outB b=[13,0]:=by unfold outB;rw[if_neg h10,if_pos h13]
    rw[eo,List.cons_append,List.cons_append,List.nil_append]
    subst h13
    show ((mIn false (l.flatMap outB)).1,(13:UInt8)::(mIn false (l.flatMap outB)).2)=_
    rw[h]
   ·have eo:outB b=[b]:=by unfold outB;rw[if_neg h10,if_neg h13]
    rw[eo,List.cons_append,List.nil_append]
    have e:∀l,mIn false (b::l)=if b=13 then mIn true l else ((mIn false l).1,b::(mIn false l).2):=fun l=>rfl
    rw[e,if_neg h13,h]
theorem Ah5 (l:List UInt8):(⟨l.toArray⟩:ByteArray).data.toList=l:=List.toList_toArray
theorem Bc8 (a b:List UInt8):AV9 (a++b)=AV9 a++AV9 b:=by unfold AV9;rw[List.flatMap_append]
theorem AV5 (a:ByteArray):wireT a=⟨(AV9 (a.data.toList.flatMap outB)).toArray⟩:=by
 unfold wireT escS
 rw[Ay3,Ah5]
theorem B55 (a b:List UInt8):(⟨(a++b).toArray⟩:ByteArray)=⟨a.toArray⟩++⟨b.toArray⟩:=by
 apply ByteArray.ext
 rw[ByteArray.data_append]
 exact(List.append_toArray a b).symm
theorem BO7 (a b:ByteArray):wireT (a++b)=wireT a++wireT b:=by
 have e:(a++b).data.toList=a.data.toList++b.data.toList:=by rw[ByteArray.data_append,Array.toList_append]
 rw[AV5 (a++b),e,List.flatMap_append,Bc8,B55,←AV5,←AV5]
theorem BH1:wireT e0=e0:=by rw[AV5];rfl
theorem A69 {a:ByteArray} (h:noFF a):(wireT a).data.toList=a.data.toList.flatMap outB∧noFF (wireT a):=by
 have hf:∀b∈a.data.toList.flatMap outB,b≠255:=fun b hb=>by
  obtain⟨c,hc,hb⟩:=List.mem_flatMap.1 hb
  have:=h c hc
  unfold outB at hb
  split at hb
  ·rcases List.mem_cons.1 hb with rfl|hb
   ·decide
   ·rw[List.mem_singleton] at hb;rw[hb];decide
  split at hb
  ·rcases List.mem_cons.1 hb with rfl|hb
   ·decide
   ·rw[List.mem_singleton] at hb;rw[hb];decide
  ·rw[List.mem_singleton] at hb;rw[hb];exact this
 have e:AV9 (a.data.toList.flatMap outB)=a.data.toList.flatMap outB:=by
  unfold AV9
  exact Ar2 _ fun b hb=>by rw[if_neg (hf b hb)]
 have e2:(wireT a).data.toList=a.data.toList.flatMap outB:=by rw[AV5,e,Ah5]
 exact⟨e2,fun b hb=>by rw[e2] at hb;exact hf b hb⟩
def encS (R:List Int):ByteArray:=strOfNums (encL R)
theorem AU9 (A B:List Int):encS (A++B)=encS A++encS B:=by unfold encS;rw[Aq8,Ak5]
theorem AX0 (R:List Int):nums (encS R)=encL R:=AE7 (Ab4 R)
theorem AS4 (R:List Int):(encS R).size=(encL R).length:=by rw[←nums_length,AX0]
theorem BF2 {R:List Int} (h:∀x∈R,isR x):noFF (encS R):=fun b hb=>by
 have hm:((b.toNat:Nat):Int)∈nums (encS R):=by
  unfold nums
  exact List.mem_map_of_mem hb
 rw[AX0] at hm
 unfold encL at hm
 obtain⟨x,hx,hm⟩:=List.mem_flatMap.1 hm
 have hr:=h x hx
 rw[A13 hr] at hm
 intro e
 rw[e] at hm
 have hm:(255:Int)∈runeL x:=hm
 rcases AG8 hr with ⟨h1,e⟩|⟨h1,e⟩|⟨h1,e⟩|⟨h1,e⟩<;>rw[e] at hm<;>simp only[List.mem_cons,List.not_mem_nil,or_false] at hm<;>omega
theorem Ac4 {R:List Int} (h:∀x∈R,isR x):feedU e0 (encS R)=(e0,R,0):=by
 obtain⟨k,t',f1,f2,f3,f4,f5⟩:=Ap4 (R:=R) h (t:=0) (c:=(encL R).length) (.inl rfl) (by omega)
 rw[Nat.zero_add,List.drop_length] at f3
 have hl:=congrArg List.length f3
 rw[List.length_drop,List.length_nil] at hl
 have ht:t'=(encL (R.drop k)).length:=by omega
 have hk:R.drop k=[]:=by
  rcases f2 with h0|⟨x,hx,hlt⟩
  ·cases hR:R.drop k with
   | nil=>rfl
   | cons y Y=>
     rw[hR] at ht
     have:=AR6 (fixR y)
     rw[Aw1,List.length_append] at ht
     omega
  ·exfalso
   cases hR:R.drop k with
   | nil=>rw[hR] at hx;cases hx
   | cons y Y=>
     rw[hR] at hx ht
     cases hx
     have hy:isR x:=h x (List.mem_of_mem_drop (i:=k) (by rw[hR];exact List.mem_cons_self))
     rw[AL4 hy,List.length_append] at ht
     omega
 have hkl:R.length≤k:=List.drop_eq_nil_iff.1 hk
 rw[List.take_zero,List.drop_zero,List.take_length,hk] at f1
 rw[List.take_of_length_le hkl] at f1
 have ez:(encL ([]:List Int)).take t'=[]:=by show ([]:List Int).take t'=[];exact List.take_nil
 rw[ez] at f1
 have e1:strOfNums ([]:List Int)=e0:=rfl
 rw[e1] at f1
 exact f1
def crlf (R:List Int):List Int:=R.flatMap fun x=>if x=13 then [13,10] else [x]
theorem Bi0 {R:List Int} (h:∀x∈R,isR x):∀x∈crlf R,isR x:=fun x hx=>by
 obtain⟨y,hy,hx⟩:=List.mem_flatMap.1 hx
 split at hx
 ·rcases List.mem_cons.1 hx with rfl|hx
  ·unfold isR;omega
  ·rw[List.mem_singleton] at hx;subst hx;unfold isR;omega
 ·rw[List.mem_singleton] at hx;rw[hx];exact h y hy
theorem Bf5 (R:List Int):(crlf R).length≤2 * R.length:=by
 induction R with
 | nil=>exact Nat.le_refl _
 | cons x R ih=>
   have e:crlf (x::R)=(if x=13 then [13,10] else [x])++crlf R:=rfl
   have e2:((if x=13 then [13,10] else [x]):List Int).length≤2:=by
    by_cases h:x=13
    ·rw[if_pos h];exact Nat.le_refl _
    ·rw[if_neg h];exact Nat.le_succ _
   rw[e,List.length_append,List.length_cons]
   omega
theorem AR0:∀(L:List Int) (p:Ps),(runP p L).2.length≤2 * L.length
 | [],_=>Nat.le_refl _
 | x::L,p=>by
   have e:runP p (x::L)=((runP (runP p [x]).1 L).1,(runP p [x]).2++(runP (runP p [x]).1 L).2):=Am0 p [x] L
   have h:=AR0 L (runP p [x]).1
   have e1:(runP p [x]).2.length≤2:=by
    have e2:(runP p [x]).2=[]++(stepP p x).2:=rfl
    rw[e2,List.nil_append]
    exact Av6 p x
   rw[e]
   dsimp only
   rw[List.length_append,List.length_cons]
   omega
theorem BV2 {zp:ByteArray} {q:Ps} (hz:zp.size≤100) (hu:chkU (nums zp)=0) (hp:okP q) (ht:q.2.2.2.2.size≤256):OkW zp q.1 q.2.1 q.2.2.1 q.2.2.2.1 q.2.2.2.2:=by
 obtain⟨s,m,i,g,t⟩:=q
 obtain⟨h1,h2,h3,h4,h5,h6,h7,h8,h9⟩:=(AO1 s m i g t).1 hp
 exact⟨hz,hu,hp,by dsimp only;omega,by dsimp only;omega,ht⟩
def ascB (B:ByteArray):Bool:=decide (B.size≤8)&&(nums B).all (fun x=>decide (x<128))
theorem AN2:∀L:List Int,(∀x∈L,0≤x∧x<128)→encL L=L
 | [],_=>rfl
 | x::L,h=>by
   have hx:=h x List.mem_cons_self
   have hr:isR x:=by unfold isR;omega
   rw[AL4 hr,AN2 L fun y hy=>h y (List.mem_cons_of_mem _ hy),BA5 x hx.2]
   rfl
def AS9 (n:Nat) (B:ByteArray):Prop:=∃R:List Int,(∀x∈R,isR x)∧R.length≤n∧B=encS R
theorem AT2 {B:ByteArray} (h:ascB B=true):AS9 8 B:=by
 unfold ascB at h
 rw[Bool.and_eq_true,decide_eq_true_iff,List.all_eq_true] at h
 obtain⟨h1,h2⟩:=h
 have h3:∀x∈nums B,0≤x∧x<128:=fun x hx=>⟨by
  unfold nums at hx
  obtain⟨b,_,rfl⟩:=List.mem_map.1 hx
  omega,of_decide_eq_true (h2 x hx)⟩
 refine⟨nums B,fun x hx=>by have:=h3 x hx;unfold isR;omega,by rw[nums_length];exact h1,?_⟩
 unfold encS
 rw[AN2 _ h3,AK0]
theorem CD3 {n:Nat} {B:ByteArray} (h:AS9 n B):AS9 (n+1) ((⟨#[27]⟩:ByteArray)++B):=by
 obtain⟨R,h1,h2,rfl⟩:=h
 refine⟨27::R,fun x hx=>?_,by rw[List.length_cons];omega,?_⟩
 ·rcases List.mem_cons.1 hx with rfl|hx
  ·unfold isR;omega
  ·exact h1 x hx
 ·have e:encS (27::R)=encS [27]++encS R:=AU9 [27] R
  rw[e]
  have e2:encS [27]=(⟨#[27]⟩:ByteArray):=by unfold encS;rw[AN2 _ (by decide)];rfl
  rw[e2]
theorem Ab1 {n m:Nat} {B:ByteArray} (h:AS9 n B) (hn:n≤m):AS9 m B:=by
 obtain⟨R,h1,h2,h3⟩:=h
 exact⟨R,h1,Nat.le_trans h2 hn,h3⟩
theorem Bz5 {name c z1 z4:Int} (hn:23≤name∧name≤26∨name=0) (h:name=0→isR c):AS9 8 (AN6 name c z1 z4):=by
 have hp:AN6 name c z1 z4=if name=23 then ⟨#[13]⟩ else if name=24 then (if z1≠0 then ⟨#[27,91,90]⟩ else ⟨#[9]⟩) else if name=25 then (if z4≠0 then ⟨#[8]⟩ else ⟨#[127]⟩) else if name=26 then ⟨#[27]⟩ else strOfNums (runeL (charC c z4)):=rfl
 rw[hp]
 by_cases e1:name=23
 ·rw[if_pos e1];exact AT2 (by decide+kernel)
 rw[if_neg e1]
 by_cases e2:name=24
 ·rw[if_pos e2]
  by_cases g:z1≠0
  ·rw[if_pos g];exact AT2 (by decide+kernel)
  ·rw[if_neg g];exact AT2 (by decide+kernel)
 rw[if_neg e2]
 by_cases e3:name=25
 ·rw[if_pos e3]
  by_cases g:z4≠0
  ·rw[if_pos g];exact AT2 (by decide+kernel)
  ·rw[if_neg g];exact AT2 (by decide+kernel)
 rw[if_neg e3]
 by_cases e4:name=26
 ·rw[if_pos e4];exact AT2 (by decide+kernel)
 rw[if_neg e4]
 have hr:isR (charC c z4):=B36 (h (by omega))
 refine⟨[charC c z4],fun x hx=>?_,Nat.le_of_ble_eq_true O,?_⟩
 ·rw[List.mem_singleton] at hx;rw[hx];exact hr
 ·unfold encS;rw[Al8 _ hr]
theorem Bp7 {first:ByteArray} {L:Int} {q:Nat} (hf:first=⟨#[91]⟩∨first=⟨#[79]⟩) (hL:L∈[(65:Int),66,67,68,72,70,80,81,82,83]) (hq:q≤7):ascB (letS first L q)=true:=by
 have h1:∀L∈[(65:Int),66,67,68,72,70,80,81,82,83],∀q∈List.range 8,ascB (letS ⟨#[91]⟩ L q)=true:=by decide+kernel
 have h2:∀L∈[(65:Int),66,67,68,72,70,80,81,82,83],∀q∈List.range 8,ascB (letS ⟨#[79]⟩ L q)=true:=by decide+kernel
 rcases hf with rfl|rfl
 ·exact h1 L hL q (List.mem_range.2 (by omega))
 ·exact h2 L hL q (List.mem_range.2 (by omega))
theorem CE1 {n q:Nat} (hL:n∈[2,3,5,6,15,17,18,19,20,21,23,24]) (hq:q≤7):ascB (nmbS n q)=true:=by
 have h1:∀n∈[2,3,5,6,15,17,18,19,20,21,23,24],∀q∈List.range 8,ascB (nmbS n q)=true:=by decide+kernel
 exact h1 n hL q (List.mem_range.2 (by omega))
theorem keyX (G:Ctx) (name c mods modes:Int):∃(R:List Int) (e:Int),(∀x∈R,isR x)∧R.length≤9∧(e=0∨(e≠0∧R=[]))∧∀H,SV Tryz.prog G 7 [keyV name c mods,.int .i64 modes] H (.tuple #[.string (encS R),.int .i64 e]):=by
 have fin:∀B:ByteArray,AS9 9 B→(∀H,SV Tryz.prog G 7 [keyV name c mods,.int .i64 modes] H (.tuple #[.string B,.int .i64 0]))→∃(R:List Int) (e:Int),(∀x∈R,isR x)∧R.length≤9∧(e=0∨(e≠0∧R=[]))∧∀H,SV Tryz.prog G 7 [keyV name c mods,.int .i64 modes] H (.tuple #[.string (encS R),.int .i64 e]):=fun B hB hS=>by
  obtain⟨R,h1,h2,rfl⟩:=hB
  exact⟨R,0,h1,h2,.inl O,hS⟩
 by_cases hk:keyOk name c mods
 ·obtain⟨hm,hn,h0,h1⟩:=hk
  rcases BY8 name hn with ⟨L,hL⟩|⟨n,hL⟩|⟨L,hL⟩|hE
  ·have hc:c=0:=h1 (by simp only[List.mem_cons,Prod.mk.injEq,List.not_mem_nil,or_false] at hL;omega)
   subst hc
   obtain⟨q,rfl⟩:∃q:Nat,mods=q:=⟨mods.toNat,by omega⟩
   refine fin _ (Ab1 (AT2 (Bp7 ?_ ?_ (by omega))) (by decide)) fun H=>By4 G H name L q modes _ O hL (by omega)
   ·split
    ·exact .inl O
    ·exact .inr O
   ·simp only[List.mem_cons,Prod.mk.injEq,List.not_mem_nil,or_false] at hL ⊢
    omega
  ·have hc:c=0:=h1 (by simp only[List.mem_cons,Prod.mk.injEq,List.not_mem_nil,or_false] at hL;omega)
   subst hc
   obtain⟨q,rfl⟩:∃q:Nat,mods=q:=⟨mods.toNat,by omega⟩
   refine fin _ (Ab1 (AT2 (CE1 ?_ (by omega))) (by decide)) fun H=>B02 G H name n q modes hL (by omega)
   simp only[List.mem_cons,Prod.mk.injEq,List.not_mem_nil,or_false] at hL ⊢
   omega
  ·have hc:c=0:=h1 (by simp only[List.mem_cons,Prod.mk.injEq,List.not_mem_nil,or_false] at hL;omega)
   subst hc
   obtain⟨q,rfl⟩:∃q:Nat,mods=q:=⟨mods.toNat,by omega⟩
   refine fin _ (Ab1 (AT2 (Bp7 (.inr O) ?_ (by omega))) (by decide)) fun H=>Bs8 G H name L q modes hL (by omega)
   simp only[List.mem_cons,Prod.mk.injEq,List.not_mem_nil,or_false] at hL ⊢
   omega
  ·have hpl:AS9 8 (AN6 name c (ibits .and .i64 mods 1) (ibits .and .i64 mods 4)):=Bz5 hE h0
   refine fin _ ?_ fun H=>BF6 G H name c mods _ _ _ modes hm hE h0 h1 O O O
   split
   ·exact CD3 hpl
   ·exact Ab1 hpl (by decide)
 ·exact⟨[],1,fun x hx=>(by cases hx),Nat.zero_le _,.inr ⟨by decide,rfl⟩,fun H=>By7 G H name c mods modes hk⟩
def crB (b:UInt8):List UInt8:=if b=13 then [13,10] else [b]
theorem Bc7:encS []=e0:=rfl
theorem BG0 (a b:ByteArray):(a++b).data.toList=a.data.toList++b.data.toList:=by rw[ByteArray.data_append,Array.toList_append]
theorem Bi9 {x:Int} (hx:isR x):nums (encS [x])=runeL x:=by rw[AX0,Al8 x hx]
theorem BE4:∀R:List Int,(∀x∈R,isR x)→(encS R).data.toList.flatMap crB=(encS (crlf R)).data.toList
 | [],_=>rfl
 | x::R,h=>by
   have hx:=h x List.mem_cons_self
   have ih:=BE4 R fun y hy=>h y (List.mem_cons_of_mem _ hy)
   have e1:encS (x::R)=encS [x]++encS R:=AU9 [x] R
   have e2:crlf (x::R)=(if x=13 then [13,10] else [x])++crlf R:=rfl
   rw[e1,e2,AU9,BG0,BG0,List.flatMap_append,ih]
   refine congrArg (· ++(encS (crlf R)).data.toList) ?_
   by_cases h13:x=13
   ·rw[if_pos h13,h13]
    have a1:encS [13]=(⟨#[13]⟩:ByteArray):=by unfold encS;rw[AN2 _ (by decide)];rfl
    have a2:encS [13,10]=(⟨#[13,10]⟩:ByteArray):=by unfold encS;rw[AN2 _ (by decide)];rfl
    rw[a1,a2];rfl
   ·rw[if_neg h13]
    refine Ar2 _ fun b hb=>?_
    have hm:((b.toNat:Nat):Int)∈nums (encS [x]):=by
     unfold nums
     exact List.mem_map_of_mem hb
    rw[Bi9 hx] at hm
    have hne:b≠13:=by
     rintro rfl
     have hm:(13:Int)∈runeL x:=hm
     rcases AG8 hx with ⟨g,e⟩|⟨g,e⟩|⟨g,e⟩|⟨g,e⟩<;>rw[e] at hm<;>simp only[List.mem_cons,List.not_mem_nil,or_false] at hm<;>omega
    unfold crB
    rw[if_neg hne]
theorem Ba5 {R:List Int} (h:∀x∈R,isR x):(⟨((encS R).data.toList.flatMap (fun b=>if b=13 then [13,10] else [b])).toArray⟩:ByteArray)=encS (crlf R):=by
 have e:((encS R).data.toList.flatMap (fun b=>if b=13 then [13,10] else [b]))=(encS R).data.toList.flatMap crB:=rfl
 rw[e,BE4 R h]
theorem Bd4 {L:List Int} (hL:∀x∈L,isR x) {t:Nat} (h:partR L t) (ht:t=(encL L).length):L=[]:=by
 cases L with
 | nil=>rfl
 | cons y Y=>
   exfalso
   have hy:isR y:=hL y List.mem_cons_self
   have hp:=AR6 y
   rw[AL4 hy,List.length_append] at ht
   rcases h with h0|⟨x,hx,hlt⟩
   ·omega
   ·cases hx
    omega
def wayL (R:List Int):List UInt8:=(encS R).data.toList.flatMap outB
def wayC (R:List Int) (n:Nat):Bool:=(mIn false ((wayL R).take n)).1
def wayO (R:List Int) (n:Nat):List UInt8:=(mIn false ((wayL R).take n)).2
theorem At1 (R:List Int) (n m:Nat):wayC R (n+m)=(mIn (wayC R n) (((wayL R).drop n).take m)).1∧wayO R (n+m)=wayO R n++(mIn (wayC R n) (((wayL R).drop n).take m)).2:=by
 have e:(wayL R).take (n+m)=(wayL R).take n++((wayL R).drop n).take m:=List.take_add
 unfold wayC wayO
 rw[e,AY8]
 exact⟨O,O⟩
theorem BI2 (R:List Int) (n:Nat) (h:(wayL R).length≤n):wayC R n=false∧wayO R n=(encS R).data.toList:=by
 unfold wayC wayO
 rw[List.take_of_length_le h]
 unfold wayL
 rw[As7]
 exact⟨O,O⟩
structure WayP (R:List Int) (n k t:Nat):Prop where
 e:(encL R).drop (wayO R n).length=(encL (R.drop k)).drop t
 p:partR (R.drop k) t
 kl:k≤R.length
 tl:t≤(encL (R.drop k)).length
theorem WayP.zero (R:List Int):WayP R 0 0 0:=by
 have e:wayO R 0=[]:=by unfold wayO;rw[List.take_zero];rfl
 exact⟨by rw[e];rfl,.inl rfl,Nat.zero_le _,Nat.zero_le _⟩
theorem Ag7 (R:List Int):p9 (encS R).data.toList=encL R:=AX0 R
theorem BI7 (R:List Int) (n:Nat):∃Y,p9 (wayO R n)++Y=encL R:=by
 have h:=At1 R n (wayL R).length
 have he:=BI2 R (n+(wayL R).length) (by omega)
 refine⟨p9 (mIn (wayC R n) (((wayL R).drop n).take (wayL R).length)).2,?_⟩
 rw[←AO8,←h.2,he.2,Ag7]
theorem WayP.step {R:List Int} (hR:∀x∈R,isR x) {n k t:Nat} (h:WayP R n k t) (m:Nat):
 ∃j t',feedU (strOfNums ((encL (R.drop k)).take t)) (strOfNums (p9 (mIn (wayC R n) (((wayL R).drop n).take m)).2))=(strOfNums ((encL (R.drop (k+j))).take t'),(R.drop k).take j,0)∧WayP R (n+m) (k+j) t':=by
 obtain⟨w1,w2⟩:=At1 R n m
 generalize hX:(mIn (wayC R n) (((wayL R).drop n).take m)).2=X at w2
 obtain⟨Y,hY⟩:=BI7 R (n+m)
 rw[w2,AO8] at hY
 have hlen:=congrArg List.length hY
 rw[List.length_append,List.length_append,AG4,AG4] at hlen
 have hd:p9 X=((encL R).drop (wayO R n).length).take X.length:=by
  rw[←hY,List.append_assoc,List.drop_append_of_le_length (by rw[AG4];exact Nat.le_refl _),List.drop_of_length_le (by rw[AG4];exact Nat.le_refl _),List.nil_append,List.take_append_of_le_length (by rw[AG4];exact Nat.le_refl _),List.take_of_length_le (by rw[AG4];exact Nat.le_refl _)]
 rw[h.e] at hd
 have hl2:=congrArg List.length h.e
 rw[List.length_drop,List.length_drop] at hl2
 have ht:=h.tl
 have hRk:∀x∈R.drop k,isR x:=fun x hx=>hR x (List.mem_of_mem_drop hx)
 obtain⟨j,t',f1,f2,f3,f4,f5⟩:=Ap4 hRk (c:=X.length) h.p (by omega)
 rw[List.drop_drop] at f1 f2 f3 f5
 refine⟨j,t',by rw[hd];exact f1,⟨?_,f2,?_,f5⟩⟩
 ·rw[w2,List.length_append,←List.drop_drop,h.e,List.drop_drop,f3]
 ·rw[List.length_drop] at f4
  have:=h.kl
  omega
theorem WayP.all {R:List Int} (hR:∀x∈R,isR x) {n k t:Nat} (h:WayP R n k t) (hn:(wayL R).length≤n):wayC R n=false∧k=R.length∧t=0:=by
 obtain⟨e1,e2⟩:=BI2 R n hn
 have h1:=h.e
 have hz:(encL R).length=(encS R).data.toList.length:=by rw[←Ag7,AG4]
 rw[e2,List.drop_of_length_le (by omega)] at h1
 have hl:=congrArg List.length h1
 rw[List.length_drop,List.length_nil] at hl
 have ht:=h.tl
 have hRk:∀x∈R.drop k,isR x:=fun x hx=>hR x (List.mem_of_mem_drop hx)
 have hk:=Bd4 hRk h.p (by omega)
 have hk2:=List.drop_eq_nil_iff.1 hk
 have:=h.kl
 rw[hk] at ht
 have e0:(encL ([]:List Int)).length=0:=rfl
 exact⟨e1,by omega,by omega⟩
theorem Bi7 (R:List Int) (k j:Nat):runP (runP w9 (R.take k)).1 ((R.drop k).take j)=((runP w9 (R.take (k+j))).1,(runP (runP w9 (R.take k)).1 ((R.drop k).take j)).2)∧∀s,runA s (runP w9 (R.take (k+j))).2=runA (runA s (runP w9 (R.take k)).2) (runP (runP w9 (R.take k)).1 ((R.drop k).take j)).2:=by
 have e:R.take (k+j)=R.take k++(R.drop k).take j:=List.take_add
 rw[e,Am0]
 refine⟨O,fun s=>?_⟩
 dsimp only
 rw[A25]
theorem A17:∀(L:List Int) {p:Ps},okP p→okP (runP p L).1
 | [],_,h=>h
 | x::L,p,h=>by
   have e:runP p (x::L)=((runP (runP p [x]).1 L).1,(runP p [x]).2++(runP (runP p [x]).1 L).2):=Am0 p [x] L
   rw[e]
   refine A17 L ?_
   have e2:(runP p [x]).1=(stepP p x).1:=rfl
   rw[e2]
   exact A05 p x h
theorem Aa5 {s:Scr} (h:OkS s) (L:List Int):OkS (runA s (runP w9 L).2):=h.run _ fun y hy=>((AY6 w9 L (Nat.zero_le _)).1 y hy).1
theorem WayP.same {R:List Int} (hR:∀x∈R,isR x) {n k j t t':Nat} (h:WayP R n k t) (h':WayP R n (k+j) t'):(R.drop k).take j=[]∧R.drop (k+j)=R.drop k∧t'=t:=by
 have e:=h'.e
 rw[h.e] at e
 have hl:=congrArg List.length e
 rw[List.length_drop,List.length_drop] at hl
 have h1:=h.tl
 have h2:=h'.tl
 have e3:R.drop k=(R.drop k).take j++R.drop (k+j):=by rw[←List.drop_drop,List.take_append_drop]
 have e4:=congrArg (fun l=>(encL l).length) e3
 rw[Aq8,List.length_append] at e4
 have hz:(encL ((R.drop k).take j)).length+t'=t:=by omega
 have hT:(R.drop k).take j=[]:=by
  cases hD:(R.drop k).take j with
  | nil=>rfl
  | cons y Y=>
    exfalso
    have hy:isR y:=hR y (List.mem_of_mem_drop (List.mem_of_mem_take (show y∈(R.drop k).take j by rw[hD];exact List.mem_cons_self)))
    rw[hD,AL4 hy,List.length_append] at hz
    have hp:=AR6 y
    rcases h.p with h0|⟨x,hx,hlt⟩
    ·omega
    ·rw[e3,hD] at hx
     cases hx
     omega
 rw[hT,List.nil_append] at e3
 rw[hT] at hz
 have e0:(encL ([]:List Int)).length=0:=rfl
 exact⟨hT,e3.symm,by omega⟩
def qAt (R:List Int) (k:Nat):Ps:=(runP w9 (R.take k)).1
def zAt (R:List Int) (k t:Nat):ByteArray:=strOfNums ((encL (R.drop k)).take t)
def yAt (s:Scr) (R:List Int) (k:Nat):Scr:=runA s (runP w9 (R.take k)).2
abbrev yCl (R:List Int) (n k t:Nat) (S P:List Value):List Value:=wkG (wayC R n) (zAt R k t) (qAt R k).1 (qAt R k).2.1 (qAt R k).2.2.1 (qAt R k).2.2.2.1 (qAt R k).2.2.2.2 S n00 P k00 (cliX ⟨#[]⟩ false)
theorem A06 (R:List Int) (k t:Nat):nums (zAt R k t)=(encL (R.drop k)).take t:=AE7 fun x hx=>Ab4 _ x (List.mem_of_mem_take hx)
theorem B45 {R:List Int} (hR:∀x∈R,isR x) {n k t:Nat} (h:WayP R n k t):OkW (zAt R k t) (qAt R k).1 (qAt R k).2.1 (qAt R k).2.2.1 (qAt R k).2.2.2.1 (qAt R k).2.2.2.2:=by
 have hRk:∀x∈R.drop k,isR x:=fun x hx=>hR x (List.mem_of_mem_drop hx)
 refine BV2 ?_ ?_ (A17 _ A01) (AY6 w9 _ (Nat.zero_le _)).2
 ·rw[←nums_length,A06,List.length_take]
  rcases h.p with h0|⟨x,_,hlt⟩
  ·omega
  ·have:=AX4 x
   omega
 ·rw[A06]
  exact A81 hRk h.p
theorem A02:OkW e0 0 0 e0 e0 e0:=BV2 (q:=w9) (Nat.zero_le _) rfl A01 (Nat.zero_le _)
theorem Bm5 (R:List Int) (n:Nat):(wayO R n).length≤4 * R.length:=by
 obtain⟨Y,hY⟩:=BI7 R n
 have h:=congrArg List.length hY
 rw[List.length_append,AG4] at h
 have:=AF9 R
 omega
section
attribute [local irreducible] SW SL SQ AtQ SV SC BB LD PK Yields SO SOT SOA SY SP SPT SPA negC
theorem BP7 (G:Ctx) (hP:∀H,AB2 G H) (M:Int) (hM:∀H w,Holds G H w→w.cell? ⟨2,0,none⟩=some (.int .i64 M)) (hT:∀H w,Holds G H w→Lib.Utf8Tabs 0 1 w) (H:List Ent)
 (R:List Int) (hR:∀x∈R,isR x) (hl:R.length≤600) (s:Scr) (f:OkS s) (n k t m:Nat) (hw:WayP R n k t) (hm:m≤4096) (S P:List Value) (h:CliS G H (yAt s R k) S P) (d:ByteArray) (hd:d.data.toList=((wayL R).drop n).take m):
 SC Tryz.prog G 18 [.agg (yCl R n k t S P).toArray,.agg (evC 1 d 0 0).toArray] H fun v H'=>∃k' t' S2 P2 E t2,v= .tuple #[.agg (yCl R (n+m) k' t' S2 P2).toArray,.string t2,.int .i64 0]∧t2.size≤4000000∧H'=E++H∧CliS G E (yAt s R k') S2 P2∧WayP R (n+m) k' t':=by
 obtain⟨j,t',g1,g2⟩:=hw.step hR m
 have hsz:d.size=(((wayL R).drop n).take m).length:=by rw[←hd];exact Array.length_toList.symm
 have hd1:d.size≤4096:=by rw[hsz,List.length_take];omega
 have hW:=A69 (BF2 hR)
 have hff:noFF d:=fun b hb=>by
  rw[hd] at hb
  refine hW.2 b ?_
  rw[hW.1]
  exact List.mem_of_mem_drop (List.mem_of_mem_take hb)
 obtain⟨w1,w2⟩:=At1 R n m
 have hx:(mIn (wayC R n) d.data.toList).2.length≤10000:=by
  have h1:=Bm5 R (n+m)
  rw[w2,List.length_append,←hd] at h1
  omega
 have hrun:=Bi7 R k j
 have hLl:((R.drop k).take j).length≤600:=by rw[List.length_take,List.length_drop];omega
 have hBl:=AR0 ((R.drop k).take j) (qAt R k)
 have h0:d.size=0→wayC R (n+m)=wayC R n∧zAt R (k+j) t'=zAt R k t∧qAt R (k+j)=qAt R k∧(runP (qAt R k) ((R.drop k).take j)).2=[]:=fun hz=>by
  have hnil:((wayL R).drop n).take m=[]:=List.length_eq_zero_iff.1 (by omega)
  rw[hnil] at w1 w2
  have e0:∀c,(mIn c []).2=[]∨True:=fun c=> .inr trivial
  have ec:mIn (wayC R n) []=(wayC R n,[]):=by cases wayC R n<;>rfl
  rw[ec] at w1 w2
  dsimp only at w1 w2
  rw[List.append_nil] at w2
  have g2':WayP R n (k+j) t':=⟨by rw[←w2];exact g2.e,g2.p,g2.kl,g2.tl⟩
  obtain⟨a1,a2,a3⟩:=hw.same hR g2'
  refine⟨w1,?_,?_,?_⟩
  ·unfold zAt;rw[a2,a3]
  ·have e:=congrArg Prod.fst hrun.1
   rw[a1] at e
   exact e.symm
  ·rw[a1];rfl
 have hBn:(runP (runP w9 (R.take k)).1 ((R.drop k).take j)).2.length≤10000:=by
  have e:(runP (runP w9 (R.take k)).1 ((R.drop k).take j)).2=(runP (qAt R k) ((R.drop k).take j)).2:=rfl
  rw[e];omega
 have hB:=BX0 G hP M hM hT H (wayC R n) (zAt R k t) (qAt R k).1 (qAt R k).2.1 (qAt R k).2.2.1 (qAt R k).2.2.2.1 (qAt R k).2.2.2.2 (B45 hR hw) (yAt s R k) (Aa5 f _) S P h
  d hd1 hff (wayC R (n+m)) _ (by rw[hd];exact w1.symm) rfl (by rw[Aa2,AG4];exact hx) (zAt R (k+j) t') ((R.drop k).take j) (by rw[hd];exact g1) (by omega) (qAt R (k+j)).1 (qAt R (k+j)).2.1 (qAt R (k+j)).2.2.1 (qAt R (k+j)).2.2.2.1 (qAt R (k+j)).2.2.2.2 _ hrun.1 hBn (fun hz=>by
   obtain⟨b1,b2,b3,b4⟩:=h0 hz
   exact⟨b1,b2,b3,b4⟩)
 refine AA7 hB fun v H' ⟨S2,P2,E,t2,e1,e2,e3,e4,_⟩=>⟨k+j,t',S2,P2,E,t2,e1,e2,e3,?_,g2⟩
 have e5:yAt s R (k+j)=runA (yAt s R k) (runP (runP w9 (R.take k)).1 ((R.drop k).take j)).2:=hrun.2 s
 rw[e5]
 exact e4
theorem B50 (G:Ctx) (hP:∀H,AB2 G H) (M:Int) (hM:∀H w,Holds G H w→w.cell? ⟨2,0,none⟩=some (.int .i64 M)) (hT:∀H w,Holds G H w→Lib.Utf8Tabs 0 1 w) (s:Scr) (f:OkS s) (name rune mods:Int):
 ∃(R:List Int) (e:Int),(∀x∈R,isR x)∧R.length≤9∧(∀H,SV Tryz.prog G 7 [keyV name rune mods,.int .i64 s.modes] H (.tuple #[.string (encS R),.int .i64 e]))∧OkS (runA s (runP w9 (crlf R)).2)∧∀(H:List Ent) (S P:List Value) (h:CliS G H s S P),
 SC Tryz.prog G 18 [.agg (wkG false e0 0 0 e0 e0 e0 S n00 P k00 (cliX ⟨#[]⟩ false)).toArray,.agg (evK name rune mods).toArray] H fun v H'=>∃S2 P2 E,v= .tuple #[.agg (wkG false e0 0 0 e0 e0 e0 S2 n00 P2 k00 (cliX ⟨#[]⟩ false)).toArray,.string (wireT (encS R)),.int .i64 e]∧H'=E++H∧CliS G E (runA s (runP w9 (crlf R)).2) S2 P2:=by
 obtain⟨R,e,hR,hl,he,cK⟩:=keyX G name rune mods s.modes
 refine⟨R,e,hR,hl,cK,Aa5 f _,fun H S P h=>?_⟩
 have hcl:=Bf5 R
 rcases he with rfl|⟨he,rfl⟩
 ·have hs:=AF9 R
  have hs2:=AF9 (crlf R)
  have hrl:=AR0 (crlf R) w9
  exact BX5 G hP M hM hT H false e0 0 0 e0 e0 e0 A02 s f S P h name rune mods (encS R) cK (by rw[AS4];omega) (encS (crlf R)) (Ba5 hR) (by rw[AS4];omega) e0 (crlf R) 0 (Ac4 (Bi0 hR)) (by omega) (by omega)
 ·have hx:=B60 G M hM H false e0 0 0 e0 e0 e0 A02 s f S P h name rune mods (encS []) e he cK
  refine AA7 hx fun v H' ⟨S2,P2,E,e1,e2,e3⟩=>⟨S2,P2,E,?_,e2,e3⟩
  rw[e1,Bc7,BH1]
end
end Go.Proofs.YtmmnimagbnlcmaaGreatDoor
namespace Go.Sx
theorem Bn1 {P:Program} {t:TypeId} {x y:Operand} {K:Value→Prop} {a:ByteArray} (hk:K (.bool true)):BB P .eql t x y (.string a) (.string a) K:=AB9 (by rw[decide_eq_true rfl];exact hk)
end Go.Sx
namespace Go.Proofs.YtmmnimagbnlcmaaGreatDoor
theorem Au0 (d:Nat) (x y z:Int):AI6 Tryz.prog (d+2) 31 (penV x y z):=by
 have hfs:Tryz.prog.fieldsOf 31=(match Tryz.prog.underlying 31 with|some (.struct fs)=>fs|_=>#[]):=rfl
 refine AT1 (by rw[hfs,Tryz.underlying31]) (by kernel_rfl) ?_
 rw[hfs,Tryz.underlying31]
 refine List.forall_mem_cons.2 ⟨⟨by decide,_,l5 rfl,q9 _⟩,?_⟩
 refine List.forall_mem_cons.2 ⟨⟨by decide,_,l5 rfl,q9 _⟩,?_⟩
 refine List.forall_mem_cons.2 ⟨⟨by decide,_,l5 rfl,q9 _⟩,?_⟩
 exact fun f hf=>by cases hf
theorem Ay4 (d:Nat) (x y:Int):AI6 Tryz.prog (d+2) 36 (.agg [.int .i64 x,.int .i64 y].toArray):=
 Ap0 (n:=2) (e:=3) (by kernel_rfl) fun j hj=>by
  rcases (show j=0∨j=1 by omega) with rfl|rfl
  ·exact⟨_,O,q9 _⟩
  ·exact⟨_,O,q9 _⟩
theorem BN9 (d:Nat) (x y z u:Int):AI6 Tryz.prog (d+2) 33 (.agg [.int .u64 x,.int .u64 y,.int .u64 z,.int .u64 u].toArray):=
 Ap0 (n:=4) (e:=32) (by kernel_rfl) fun j hj=>by
  rcases (show j=0∨j=1∨j=2∨j=3 by omega) with rfl|rfl|rfl|rfl
  ·exact⟨_,O,q9 _⟩
  ·exact⟨_,O,q9 _⟩
  ·exact⟨_,O,q9 _⟩
  ·exact⟨_,O,q9 _⟩
theorem BC8 (x y z u:Int):AI6 Tryz.prog 10000 35 (.agg [.int .u64 x,.int .u64 y,.int .u64 z,.int .u64 u].toArray):=by
 have hfs:Tryz.prog.fieldsOf 35=(match Tryz.prog.underlying 35 with|some (.struct fs)=>fs|_=>#[]):=rfl
 refine AT1 (d:=9999) (by rw[hfs,Tryz.underlying35]) (by kernel_rfl) ?_
 rw[hfs,Tryz.underlying35]
 refine List.forall_mem_cons.2 ⟨⟨by decide,_,AO6 (sz:=4) rfl,BN9 9997 x y z u⟩,?_⟩
 exact fun f hf=>by cases hf
theorem BJ1 (a b x y z:Int) (o:Bool) (p q s:Int):AI6 Tryz.prog 10000 38 (.agg [.int .i64 a,.int .i64 b,.int .i64 x,.int .i64 y,.int .i64 z,.bool o,.int .i64 p,.int .i64 q,.int .i64 s].toArray):=by
 have hfs:Tryz.prog.fieldsOf 38=(match Tryz.prog.underlying 38 with|some (.struct fs)=>fs|_=>#[]):=rfl
 refine AT1 (d:=9999) (by rw[hfs,Tryz.underlying38]) (by kernel_rfl) ?_
 rw[hfs,Tryz.underlying38]
 refine List.forall_mem_cons.2 ⟨⟨by decide,_,l5 rfl,q9 _⟩,?_⟩
 refine List.forall_mem_cons.2 ⟨⟨by decide,_,l5 rfl,q9 _⟩,?_⟩
 refine List.forall_mem_cons.2 ⟨⟨by decide,_,AO6 (sz:=3) rfl,Au0 9997 x y z⟩,?_⟩
 refine List.forall_mem_cons.2 ⟨⟨by decide,_,l5 rfl,BD0 _ (by kernel_rfl)⟩,?_⟩
 refine List.forall_mem_cons.2 ⟨⟨by decide,_,AO6 (sz:=2) rfl,Ay4 9997 p q⟩,?_⟩
 refine List.forall_mem_cons.2 ⟨⟨by decide,_,l5 rfl,q9 _⟩,?_⟩
 exact fun f hf=>by cases hf
section
attribute [local irreducible] SW SL SQ AtQ SV SC BB LD PK Yields SO SOT SOA SY SP SPT SPA negC
theorem BA1 (G:Ctx) (H:List Ent) (x y:Rx Qd) (hx:Sl qds G H x) (hy:Sl qds G H y) (he:x.2.2=y.2.2) (hb:x.2.2.length≤100000):SV Tryz.prog G 34 [.agg #[rxV x],.agg #[rxV y]] H (.bool true):=by
 obtain⟨a,c,L⟩:=x
 obtain⟨a2,c2,L2⟩:=y
 dsimp only at he hb
 subst he
 have c0:=fun H' (h1:RdC G H' a (qds L)) (h2:RdC G H' a2 (qds L))=>Au4 G H' L L (h1:=h1) (h2:=h2) a a2 L.length L.length c c2 rfl rfl rfl rfl hb hb
 rw[decide_eq_true rfl] at c0
 have cE:=fun H' h1 h2=>c0 H' (Sl.rd (x:=(a,c,L)) h1) (Sl.rd (x:=(a2,c2,L)) h2)
 clear c0
 refine R3 Tryz.func34 O O O O O ?_
 repeat' (first|(apply E8;first|(apply A8;refine A9 ?_)|(apply F5;refine F8 O O ?_;refine F4 O ?_)|(apply D5;refine D9 O O ?_)|(apply G6;refine G7 (D8 O O) O ?_)|(apply H5;refine H6 O O O (cE _ hx.cons.cons hy.cons.cons) O O ?_)|(apply K6;refine L9 O O O O O O (fun _=>?_)))|(apply D6)|(apply I4)|(apply A7)|(apply C9))
 refine N7 (by (exact .inr O)) O O0 ?_
 rfl
theorem Ay9 (G:Ctx) (H:List Ent) (X Y:List (Rx Qd)) (ao ay:Option Addr) (n co cy:Nat) {vs us:List Value} [h1:RdC G H ao vs] [h2:RdC G H ay us] (hv:vs=X.map rxV) (hu:us=Y.map rxV) (hX:RdX qds G H X) (hY:RdX qds G H Y) (hn:n=X.length) (hm:n≤9223372036854775807) (he:X.map (·.2.2)=Y.map (·.2.2)) (hb:∀x∈X,x.2.2.length≤100000):SV Tryz.prog G 33 [.slice ao n co,.slice ay n cy,.func (.func 34) #[] #[]] H (.bool true):=by
 have hl:X.length=Y.length:=by simpa using congrArg List.length he
 have hlx:vs.length=n * 1:=by simp [hv,hn]
 have hly:us.length=n * 1:=by simp [hu,hn,hl]
 have hel:∀(X:List (Rx Qd)) (k:Nat) x,X[k]? =some x→take? ((X.map rxV).drop ((k:Int).toNat * 1)) 1=some [rxV x]:=fun X k x hx=>by
  rw[Int.toNat_natCast,Nat.mul_one]
  have hlt:=(List.getElem?_eq_some_iff.1 hx).1
  refine AM1 O ?_
  rw[List.drop_eq_getElem_cons (by rw[List.length_map];exact hlt),List.take_succ_cons,List.take_zero,List.getElem_map,(List.getElem?_eq_some_iff.1 hx).2]
 have hel1:∀(k:Nat) x,X[k]? =some x→take? (vs.drop ((k:Int).toNat * 1)) 1=some [rxV x]:=fun k x hx=>by subst hv;exact hel X k x hx
 have hel2:∀(k:Nat) x,Y[k]? =some x→take? (us.drop ((k:Int).toNat * 1)) 1=some [rxV x]:=fun k x hx=>by subst hu;exact hel Y k x hx
 have Hn:=Lib.hid hn
 have He:=Lib.hid hel1
 have He2:=Lib.hid hel2
 clear hn hv hu hel hel1 hel2
 refine AF2 Tryz.func33 O O O O O ?_
 repeat' (first|(apply E8;first|(apply A8;refine A9 ?_)|(apply C8;refine D7 O O ?_)|(apply E5;refine F7 O O O ?_;refine F9 O ?_)|(apply D5;refine D9 O O ?_)|(apply K5;refine s_call (S9 O O) O ?_))|(apply D6)|(apply G8)|(apply F3)|(apply A7)|(refine G5 O ?_;apply Y7<;>intro hq<;>(try (exfalso;omega)))|(apply C9))
 refine R7 (α:=Nat) (fun k=>[(1,.slice ay n cy),(2,.func (.func 34) #[] #[]),(15,.slice ao n co),(16,.int .i64 n),(17,.int .i64 k)]) (fun _=>H)
  (fun k=>k≤n) (fun k=>n-k) 0 (Nat.zero_le _) Q7 J3 ?_
 intro k hk
 by_cases hlt:(k:Int)<n
 ·obtain⟨x,hx⟩:=AC3 (X:=X) (k:=k) (by rw[←Hn.out];omega)
  obtain⟨y,hy⟩:=AC3 (X:=Y) (k:=k) (by rw[←hl,←Hn.out];omega)
  have e1:=He.out k x hx
  have e2:=He2.out k y hy
  have heq:x.2.2=y.2.2:=by
   have h5:=A72 (·.2.2) hx
   rw[he,A72 (·.2.2) hy] at h5
   exact(Option.some.inj h5).symm
  have hbx:=hb x (List.mem_of_getElem? hx)
  have sx:=hX.at hx
  have sy:=hY.at hy
  obtain⟨a,c,L⟩:=x
  obtain⟨a2,c2,L2⟩:=y
  have cc:=fun H' h3 h4=>BA1 G H' (a,c,L) (a2,c2,L2) h3 h4 heq hbx
  have e1:take? (vs.drop ((k:Int).toNat * 1)) 1=some [.slice a L.length c]:=e1
  have e2:take? (us.drop ((k:Int).toNat * 1)) 1=some [.slice a2 L2.length c2]:=e2
  clear he hX hY hx hy hb hbx heq
  repeat' (first|(apply E8;first|(apply A8;refine A9 ?_)|(apply C8;refine D7 O O ?_)|(apply E5;refine F7 O O O ?_;first|(apply K9;refine L6 ⟨by omega,by omega⟩ ?_)|refine F9 O ?_)|(apply F5;first|(refine F8 O O ?_;refine M5 O ?_)|(refine F8 O O ?_;first|refine l6 e1 O ?_ |refine l6 e2 O ?_))|(apply D5;refine D9 O O ?_)|(apply X5;refine Z9 (Z8 O O O) O ?_)|(apply M4;first|(refine M8 (K7 O O O hlx (by omega) (by omega)) O ?_)|(refine M8 (K7 O O O hly (by omega) (by omega)) O ?_))|(apply H8;refine Q8 O O O O O O O O ?_)|(apply O6;refine Q4 O O O O (fun _=>?_))|(refine AH8 O O O O (cc _ sx.cons.cons sy.cons.cons) O O ?_))|(apply D6)|(apply G8)|(apply F3)|(apply A7)|(refine G5 O ?_;first|(apply H7)|(apply E9<;>intro hq<;>(try (exfalso;omega))))|(apply C9)|(apply H9))
  exact J6 (k+1) ⟨by omega,by omega⟩ Q7 J3
 ·obtain rfl:k=n:=by omega
  repeat' (first|(apply E8;first|(apply A8;refine A9 ?_)|(apply E5;refine F7 O O O ?_;refine F9 O ?_)|(apply D5;refine D9 O O ?_))|(apply D6)|(apply I4)|(apply O7)|(apply A7)|(refine G5 O ?_;apply E9<;>intro hq<;>(try (exfalso;omega)))|(apply C9)|(apply K3)|(apply K4))
  refine N7 (by (exact .inr O)) O O0 ?_
  rfl
theorem BB6 (G:Ctx) (H:List Ent) (s:Scr) (X Y:List (Rx Qd)) (a1 a2 a3 a4 a5 a6:Option Addr) (n1 n2 n3 c1 c2 c3 c4 c5 c6:Nat) [h1:RdC G H a1 (qds s.C)] [h2:RdC G H a2 (qds s.C)] [h3:RdC G H a3 (qds s.D)] [h4:RdC G H a4 (qds s.D)] [h5:RdC G H a5 (X.map rxV)] [h6:RdC G H a6 (Y.map rxV)] (hX:RdX qds G H X) (hY:RdX qds G H Y) (hn:n1=s.C.length) (hm:n2=s.D.length) (hb:n1≤100000) (hb2:n2≤100000) (hp:n3=X.length) (hp2:n3≤100000) (he:X.map (·.2.2)=Y.map (·.2.2)) (hl:∀x∈X,x.2.2.length≤100000):
 SV Tryz.prog G 14 [.agg (scnC s a1 n1 c1 a3 n2 c3 a5 n3 c5).toArray,.agg (scnC s a2 n1 c2 a4 n2 c4 a6 n3 c6).toArray] H (.bool true):=by
 obtain⟨w,h,row,col,late,top,bot,pf,pr,pb,modes,st,p0,p1,sh,sr,sc,spf,spr,spb,so,sp0,sp1,ssh,ti,C,D,past⟩:=s
 unfold scnC
 dsimp only at *
 have cg:=fun (H:List Ent) [RdC G H a1 (qds C)] [RdC G H a2 (qds C)]=>Aj8 G H C C w h w h a1 a2 n1 n1 c1 c2 rfl rfl hn hn hb hb rfl rfl rfl
 have co:=fun (H:List Ent) [RdC G H a3 (qds D)] [RdC G H a4 (qds D)]=>Aj8 G H D D w h w h a3 a4 n2 n2 c3 c4 rfl rfl hm hm hb2 hb2 rfl rfl rfl
 have cl:=fun (H':List Ent) (hH:∀w,Holds G H' w→Holds G H w)=>Ay9 G H' X Y (h1:=⟨h5.here.mono hH⟩) (h2:=⟨h6.here.mono hH⟩) a5 a6 n3 c5 c6 rfl rfl (hX.mono hH) (hY.mono hH) hp (by omega) he hl
 have e1:=Au0 9998 pf pr pb
 have e2:=BC8 (st 0) (st 1) (st 2) (st 3)
 have e3:=Ay4 9998 p0 p1
 have e4:=BJ1 sr sc spf spr spb so sp0 sp1 ssh
 clear hn hm hb hb2 hp hp2 he hl hX hY
 refine R3 Tryz.func14 O O O O O ?_
 repeat' (first|(apply E8;first|(apply A8;refine A9 ?_)|(apply C8;refine D7 O O ?_)|(apply E5;refine F7 O O O ?_;first|(refine Ah4 e1 (by kernel_rfl) ?_)|(refine Ah4 e2 (by kernel_rfl) ?_)|(refine Ah4 e3 (by kernel_rfl) ?_)|(refine Ah4 e4 (by kernel_rfl) ?_)|(refine Bn1 ?_)|(refine F9 O ?_))|(apply F5;refine F8 O O ?_;first|refine F4 O ?_ |refine O9 O O ?_)|(apply D5;refine D9 O O ?_)|(apply I6;refine J4 O O ?_;first|(apply P7;refine P6 O ?_)|(apply M6;refine M7 O ?_))|(apply G6;refine G7 (D8 O O) O ?_)|(apply H5;first|refine H6 O O O (cg _) O O ?_ |refine H6 O O O (co _) O O ?_ |refine H6 O O O (cl _ J3) O O ?_)|(apply K6;refine L9 O O O O O O (fun _=>?_))|(apply I5;refine J9 O O O O ?_;first|(apply I1)|(apply H7)|(apply E9<;>intro hq<;>(try (exfalso;omega)))))|(apply D6)|(apply I4)|(apply A7)|(apply C9))
 all_goals (first|exact absurd O (by assumption)|(refine N7 (by (exact .inr O)) O O0 ?_;rfl))
end
end Go.Proofs.YtmmnimagbnlcmaaGreatDoor
