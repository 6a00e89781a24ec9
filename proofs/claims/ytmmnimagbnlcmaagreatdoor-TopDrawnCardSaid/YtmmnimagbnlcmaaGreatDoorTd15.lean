/- Texts of this claim, merged: Drw5 TopP TopQ Neg3 Neg5 TopR Top1 Top3 Drw6 Top4 Top5 Top6 Drw7. -/
import Derived.Test.YtmmnimagbnlcmaaGreatDoorTd14
import Derived.Test.YtmmnimagbnlcmaaGreatDoorRows
import Derived.WalkKit
import Derived.WalkSpells
import Derived.WalkLawsBesides
import Derived.Handy
import Derived.Lib.Hide
import Derived.Laws.BitsAllLaws
import Derived.Deep.MidRow
import Derived.Deep.WholeRow
import Derived.BigQuiet
import Derived.Deep.QuietTactic
import Derived.Laws.CopyOwn
import Derived.StillTailTactics
import Derived.RegionTactic
import Derived.ChangeAlike
import Derived.Laws.AppendOwnNone
import Derived.Laws.MakeOwn
import Derived.Laws.IdiomStrings
import Derived.OrdersHeld
import Derived.Lib.SliceRun
import Derived.ChangeKeysEq
import Derived.Laws.CopyRow
import Derived.Lib.AppendStr
import Derived.ArgAppend
import Derived.Laws.RangeAny
import Derived.Maps.RangeRun
import Derived.Lib.Replace
import Derived.Lib.Join
import Derived.Lib.IndexLaws
import Derived.Lib.IndexMore
import Derived.Lib.SplitLaws
import Derived.Shelf.Strings.Builder1
import Derived.Shelf.Strings.Builder2
import Derived.Shelf.Strings.OnBuilder
import Derived.Shelf.Strings.Trim
import Derived.Shelf.Small.Utf8
import Derived.Shelf.Small.Strs
import Derived.Shelf.Strings.BuilderF
import Derived.Shelf.Strconv.Itoa0
import Derived.Shelf.Strconv.Itoa1
import Derived.Shelf.LaysM
import Derived.Shelf.Strconv.Itoa2
import Derived.Shelf.Strconv.Itoa3
import Derived.Shelf.Strings.Search1
import Derived.Shelf.Strings.Search2
import Derived.Shelf.Strings.Search3
import Derived.Shelf.Strings.Count
import Derived.Shelf.Strings.Shaped
import Derived.Shelf.Strings.LastIndex
import Derived.Shelf.Strings.Prefix
import Derived.Shelf.Strings.Split
import Derived.Shelf.Strings.Replace
import Derived.Shelf.Strings.SplitShaped
import Derived.Shelf.Strings.Runes
import Derived.Shelf.Strings.AsciiSet
import Derived.Shelf.Bits.Mul64
import Derived.Shelf.Strings.Repeat
import Derived.Shelf.Unicode.DecodeSlow
import Derived.Shelf.Unicode.DecodeAny
import Derived.Shelf.Unicode.ValidAny
import Derived.Test.YtmmnimagbnlcmaaGreatDoorProg
import Derived.Lib.Bytealg
import Derived.Lib.Repeat
import Derived.Lib.DecodeN
import Derived.Lib.ItoaNum
namespace Go.Proofs.YtmmnimagbnlcmaaGreatDoor
open Go Go.RowKit Go.Fw Go.Sx
set_option maxRecDepth 100000
section
set_option maxHeartbeats 2000000
/-- The first cells of a client: no command and no return under way, a part of a rune, a parser. -/
abbrev cliA (part:ByteArray) (a b:Int) (i g t:ByteArray):List Value:=[.int .i64 0,.int .i64 0,.int .i64 0,.string .empty,.bool false,.bool false,.string part,.int .i64 a,.int .i64 b,.string i,.string g,.string t]
abbrev wkD (part:ByteArray) (a b:Int) (i g t:ByteArray) (S N P K E:List Value):List Value:=big (cliA part a b i g t) S (big [] N (big P K E))
theorem AK7 {zp:ByteArray} {za zb:Int} {zi zg zt:ByteArray} {S N P K E:List Value} [hS:Len S 33] [hN:Len N 520] [hK:Len K 38] {p e k:Nat} (hP:P.length=p) (hE:E.length=e) (hk:12+(33+(520+(p+(38+e))))=k):(wkD zp za zb zi zg zt S N P K E).length=k:=by
  unfold wkD big
  simp only[List.length_append,hS.here,hN.here,hK.here,hP,hE,List.length_nil]
  subst hk
  show 12+_=_
  omega
attribute [local irreducible] SW SL SQ AtQ SV SC BB LD PK Yields SO SOT SOA SY negC
theorem Aw1 (G:Ctx) (H:List Ent) (zp:ByteArray) (za zb:Int) (zi zg zt:ByteArray) (hzp:zp.size≤1000000) (hzu:chkU (nums zp)=0) (hzq:okP (za,zb,zi,zg,zt)) (hzi:zi.size≤1000000) (hzg:zg.size≤1000000) (S N K:List Value) [hS:Len S 33] [hN:Len N 520] [hK:Len K 38] (na:Option Addr) (nn nc:Nat) (va:Option Addr) (vn vc:Nat) (buf:ByteArray) (ed:Bool) (hb:buf.size<1024) (M:Int) (hM:∀H w,Holds G H w→w.cell? ⟨2,0,none⟩=some (.int .i64 M))
    (cS:∀H':List Ent,(∀w,Holds G H' w→Holds G H w)→SV Tryz.prog G 36 [.agg S.toArray] H' (.int .i64 0))
    (cN:∀H':List Ent,SV Tryz.prog G 71 [.agg N.toArray] H' (.int .i64 0))
    (cA:∀H':List Ent,(∀w,Holds G H' w→Holds G H w)→SV Tryz.prog G 48 [.agg #[.slice na nn nc,.int .i64 0]] H' (.int .i64 0))
    (r:ByteArray) (cV:∀H':List Ent,(∀w,Holds G H' w→Holds G H w)→SV Tryz.prog G 49 [.slice va vn vc] H' (.tuple #[.string r,.int .i64 0]))
    (cK:∀H':List Ent,SV Tryz.prog G 72 [.agg K.toArray] H' (.int .i64 0)):
    SV Tryz.prog G 42 [.agg (wkD zp za zb zi zg zt S N [.slice na nn nc,.int .i64 0,.slice va vn vc] K (cliX buf ed)).toArray] H (.int .i64 0):=by
  have cI:∀H':List Ent,SV Tryz.prog G 70 [wireV 0 0 0 .empty false] H' (.int .i64 0):=fun H'=>by
    have h:=AV2 G H' 0 0 0 .empty false
    rwa [show wireE 0 0 0 ByteArray.empty.size (ovI false)=0 from by decide+kernel] at h
  have cU:∀H':List Ent,SV Tryz.prog G 27 [.string zp] H' (.int .i64 0):=fun H'=>by
    have h:=AU9 G H' zp (by omega)
    rwa [hzu] at h
  have cP:∀H':List Ent,SV Tryz.prog G 54 [psV za zb zi zg zt] H' (.int .i64 0):=fun H'=>by
    have h:=Ab5 G H' M hM za zb zi zg zt (by omega) (by omega)
    rwa [(Aj0 za zb zi zg zt).2 hzq] at h
  have cL:∀H':List Ent,SV Tryz.prog G 73 [.agg #[.string buf,.bool false]] H' (.int .i64 0):=fun H'=>by
    have h:=Ab7 G H' buf false
    rwa [if_neg (by omega)] at h
  have hlen:=AK7 (zp:=zp) (za:=za) (zb:=zb) (zi:=zi) (zg:=zg) (zt:=zt) (S:=S) (N:=N) (K:=K) (P:=[.slice na nn nc,.int .i64 0,.slice va vn vc]) (E:=cliX buf ed) rfl rfl rfl
  refine M5 Tryz.func42 rfl rfl rfl rfl rfl ?_
  repeat' (first|(apply F3;first|(apply C8;refine A8 ?_)|(apply C9;refine D8 rfl rfl ?_)|(apply F4;refine F8 rfl rfl ?_;refine G6 (p9 rfl (p9 rfl (Af6 rfl))) ?_)|(apply D6;refine D9 rfl rfl ?_)|(apply G7;refine G8 (E8 rfl rfl) rfl ?_)|(apply Q6;refine U2 (K7 rfl rfl rfl) rfl ?_)|(apply H6;refine F9 rfl rfl rfl (cV _ I8) rfl rfl ?_)|(apply K9;refine O5 rfl rfl rfl rfl rfl rfl (fun _=>?_)))|(apply D7)|((fail_if_success (refine K3 (id:=2) ?_));apply A7)|(apply D5))
  refine j4 (α:=Unit) (fun _=>[(38,.agg #[.int .i64 0,.int .i64 0,.int .i64 0,.int .i64 0,.int .i64 0,.int .i64 0,.int .i64 0,.int .i64 0,.int .i64 0]),(39,.int .i64 0),(2,.int .i64 0)]) (fun _=>H) (fun _=>True) ?_ ?_
  · repeat' (first|(apply F3;first|(apply C8;refine A8 ?_)|(apply H6;first|refine F9 rfl rfl rfl (cI _) rfl rfl ?_ |refine F9 rfl rfl rfl (cU _) rfl rfl ?_ |refine F9 rfl rfl rfl (cP _) rfl rfl ?_ |refine F9 rfl rfl rfl (cS _ I8) rfl rfl ?_ |refine F9 rfl rfl rfl (cN _) rfl rfl ?_ |refine F9 rfl rfl rfl (cA _ I8) rfl rfl ?_ |refine F9 rfl rfl rfl (cK _) rfl rfl ?_ |refine F9 rfl rfl rfl (cL _) rfl rfl ?_))|(apply U4;refine R5 (k:=0) I8 ?_)|(apply V6;first|(refine O9 rfl ?_)|(refine P8 rfl rfl rfl rfl (by kernel_rfl) (by decide+kernel) (by decide+kernel) ?_;first|(apply U5;refine I4 (V4 rfl rfl) ?_)|(apply U9;first|(refine U6 rfl ?_;first|refine G6 rfl ?_ |refine L8 rfl rfl ?_)|(refine U6 rfl ?_;first|refine L8 (AG1 rfl) rfl ?_ |refine L8 (AB3 rfl) rfl ?_ |refine L8 (Z9 rfl (AB3 rfl)) rfl ?_ |refine L8 (Z9 rfl (Z9 rfl (AG1 rfl))) rfl ?_ |refine L8 (Z9 rfl (Z9 rfl (AB3 rfl))) rfl ?_ |refine L8 (Z9 rfl (Z9 rfl (Z9 rfl rfl))) rfl ?_))|(apply Q0;refine I4 (E8 rfl rfl) ?_)|(apply AH3;refine I4 (O6 rfl rfl rfl) ?_))|(refine P9 rfl ?_)|(refine R4 (by decide+kernel) ?_)|(refine S9 (by kernel_rfl) ?_))|(apply X4;first|(refine T9 rfl)|(refine U7 (by decide+kernel) ?_)|(refine U0 rfl ?_ ?_))|(refine K3 (id:=2) ?_;refine V3 _ (fun _ hw=>hw) ?_))
    all_goals exact J6 () trivial (by repeat (first|exact Le.nil _|refine Le.cons (by (rfl)) ?_)) I8
  rintro ⟨⟩-
  repeat' (apply F6)
  refine AF8 10 (AF9 ?_)
  repeat' (first|(apply F3;first|(apply C8;refine A8 ?_)|(apply C9;refine D8 rfl rfl ?_)|(apply E5;refine F5 rfl rfl rfl ?_;first|(apply M0;refine L9 ⟨by omega,by omega⟩ ?_)|refine F7 rfl ?_)|(apply D6;refine D9 rfl rfl ?_)|(apply U8;refine W9 (AK8 rfl rfl rfl (by omega) (by omega) rfl) rfl ?_))|(apply D7)|(apply AN0)|(apply G9)|(apply H7)|(apply N8)|(apply F6)|(apply A7)|(refine G5 rfl ?_;first|(apply I7)|(apply I5))|(apply D5)|(apply J7)|(apply J2)|(apply J8))
  all_goals (skip)
  all_goals (refine M3 (by (exact .inr rfl)) rfl N7 ?_;rfl)
theorem A43 (G:Ctx) (H:List Ent) (zp:ByteArray) (za zb:Int) (zi zg zt:ByteArray) (hzp:zp.size≤1000000) (hzu:chkU (nums zp)=0) (hzq:okP (za,zb,zi,zg,zt)) (hzi:zi.size≤1000000) (hzg:zg.size≤1000000) (s:Scr) (f:Fre s) (S P N K:List Value) [hN:Len N 520] [hK:Len K 38] (h:CliS G H s S P) (buf:ByteArray) (ed:Bool) (hb:buf.size<1024) (M:Int) (hM:∀H w,Holds G H w→w.cell? ⟨2,0,none⟩=some (.int .i64 M))
    (cN:∀H':List Ent,SV Tryz.prog G 71 [.agg N.toArray] H' (.int .i64 0)) (cK:∀H':List Ent,SV Tryz.prog G 72 [.agg K.toArray] H' (.int .i64 0)):
    SV Tryz.prog G 42 [.agg (wkD zp za zb zi zg zt S N P K (cliX buf ed)).toArray] H (.int .i64 0):=by
  obtain⟨h1,na,nc,va,vc,rfl,h2,h3,h4⟩:=h
  haveI:Len S 33:=⟨h1.len⟩
  obtain⟨ga,gn,gc,oa,on,oc,pa,pn,pc,X,rfl,hg,ho,hp,hr,hX,hgn,hon,hpn,hgc,hoc⟩:=h1
  refine Aw1 G H zp za zb zi zg zt hzp hzu hzq hzi hzg _ N K na 1 nc va 0 vc buf ed hb M hM (fun H' hh=>?_) cN (fun H' hh=>?_) e0 (fun H' hh=>?_) cK
  · haveI:RdC G H' ga (qds s.C):=⟨fun w hw=>hg.here w (hh w hw)⟩
    haveI:RdC G H' oa (qds s.D):=⟨fun w hw=>ho.here w (hh w hw)⟩
    haveI:RdC G H' pa (X.map rxV):=⟨fun w hw=>hp.here w (hh w hw)⟩
    exact AI7 G H' s f X ga gn gc oa on oc pa pn pc hgn hgc hon hoc hpn hX (hr.mono hh)
  · haveI:RdC G H' na (strs [xterm]):=⟨fun w hw=>h2.here w (hh w hw)⟩
    haveI:CapC G H' na 1 nc:=⟨fun w hw=>h3.here w (hh w hw)⟩
    have h:=AL2 G H' [xterm] na 1 nc 0 rfl (fun x hx=>by rw[List.mem_singleton] at hx;subst hx;decide) (by decide)
    rwa [show AA6 [xterm] 0=0 from by decide+kernel] at h
  · haveI:RdC G H' va (vrs []):=⟨fun w hw=>h4.here w (hh w hw)⟩
    have h:=AP3 G H' [] va 0 vc rfl rfl (by decide)
    rwa [show q9 []=(e0,0) from by decide+kernel] at h
theorem Aw2 (G:Ctx) (H:List Ent) (zp:ByteArray) (za zb:Int) (zi zg zt:ByteArray) (S N K:List Value) [hS:Len S 33] [hN:Len N 520] [hK:Len K 38] (na:Option Addr) (nn nc:Nat) (va:Option Addr) (vn vc:Nat) (buf:ByteArray) (ed:Bool) (l L:List Value) [h1:RdC G H na l] [h2:RdC G H va L]
    (hl:l.length=nn * 1) (hl1:l.all (·.oneCell')=true) (hL:L.length=vn * 4) (hL1:L.all (·.oneCell')=true) (hnn:nn≤100000000) (hvn:vn≤100000000) (R:List Value→List Ent→Prop) (hR:∀S' E,R S' E→S'.length=33∧S'.all (·.oneCell')=true) (hN1:N.all (·.oneCell')=true) (hK1:K.all (·.oneCell')=true) (hS1:S.all (·.oneCell')=true)
    (cS:∀H':List Ent,(∀w,Holds G H' w→Holds G H w)→SC Tryz.prog G 56 [.agg S.toArray] H' fun v H''=>∃S' E,v= .agg S'.toArray∧H''=E++H'∧R S' E):
    SC Tryz.prog G 43 [.agg (wkD zp za zb zi zg zt S N [.slice na nn nc,.int .i64 0,.slice va vn vc] K (cliX buf ed)).toArray] H fun v H'=>∃S' E a1 c1 a2 c2,v= .agg (wkD zp za zb zi zg zt S' N [.slice a1 nn c1,.int .i64 0,.slice a2 vn c2] K (cliX buf ed)).toArray∧R S' E∧
      H'= .own 142 4 a2 vn c2 L:: .own 9 1 a1 nn c1 l::(E++H):=by
  have cC1:=fun (H:List Ent) [RdC G H na l]=>AU7 G H na nn nc hl hl1 hnn
  have cC2:=fun (H:List Ent) [RdC G H va L]=>AU6 G H va vn vc hL hL1 hvn
  have hlen:=fun (S a b:List Value) (hS:Len S 33) (ha:a.length=3) (hb:b.length=7)=>AK7 (zp:=zp) (za:=za) (zb:=zb) (zi:=zi) (zg:=zg) (zt:=zt) (S:=S) (N:=N) (K:=K) (P:=a) (E:=b) (k:=613) ha hb rfl
  have hone:∀(S a b:List Value),S.all (·.oneCell')=true→a.all (·.oneCell')=true→b.all (·.oneCell')=true→(wkD zp za zb zi zg zt S N a K b).all (·.oneCell')=true:=fun S a b hS ha hb=>j3 rfl hS (j3 rfl hN1 (j3 ha hK1 hb))
  refine Y3 Tryz.func43 rfl rfl rfl rfl rfl ?_
  repeat' (first|(apply F3;first|(apply C8;refine A8 ?_)|(apply F4;refine F8 rfl rfl ?_;refine L8 (AB3 rfl) rfl ?_)|(apply G7;refine G8 (E8 rfl rfl) rfl ?_)|(apply H6;refine c_call rfl rfl rfl (cS _ I8) rfl rfl ?_;rintro _ _ ⟨S',E,rfl,rfl,hRS⟩)|(apply H9;(obtain⟨hS',hS1'⟩:=hR _ _ hRS;haveI:Len S' 33:=⟨hS'⟩;refine AE0 (off:=12) rfl rfl rfl rfl hS1' hS' (by rw[hlen _ _ _ hS rfl rfl];decide) (AH8 (m:=33) rfl hS') rfl ?_))|(apply K9;refine O5 rfl rfl rfl rfl rfl rfl (fun _=>?_))|(apply L6;refine O0 rfl rfl rfl rfl (fun _=>?_)))|(apply D7)|((fail_if_success (refine K3 (id:=2) ?_));apply A7)|(apply D5))
  rename_i b1 b2
  have hS':Len S' 33:=inferInstance
  have hS1':=(hR _ _ hRS).2
  refine j4 (α:=(Option Addr×Nat)×Option Addr×Nat) (fun _=>[(1,.pointer (some ⟨b1,0,none⟩)),(2,.pointer (some ⟨b2,0,none⟩))])
    (fun g=> .blk b1 56 (big (cliA zp za zb zi zg zt) S' (big [] N (big [.slice g.1.1 nn g.1.2,.int .i64 0,.slice g.2.1 vn g.2.2] K (cliX buf ed)))):: .own 142 4 g.2.1 vn g.2.2 L:: .own 9 1 g.1.1 nn g.1.2 l::(E++ .blk b2 56 cliZ::H)) (fun _=>True) ?_ ?_
  · repeat' (first|(apply F3;first|(apply C8;refine A8 ?_)|(apply F4;refine F8 rfl rfl ?_;refine G6 (p9 rfl (p9 rfl (Af6 rfl))) ?_)|(apply H6;first|(refine c_call rfl rfl rfl (cC1 _) rfl rfl ?_;rintro _ _ ⟨a1,c1,rfl,rfl⟩)|(refine c_call rfl rfl rfl (cC2 _) rfl rfl ?_;rintro _ _ ⟨a2,c2,rfl,rfl⟩))|(apply H9;refine AM5 rfl rfl rfl rfl rfl (AM4 rfl (AM4 rfl (BD3 rfl))) (by rw[hlen _ _ _ (by assumption) rfl rfl];decide) rfl ?_))|(apply U4;refine R5 (k:=0) I8 ?_)|(apply V6;first|(refine O9 rfl ?_)|(refine P8 rfl rfl rfl rfl (by kernel_rfl) (by decide+kernel) (by decide+kernel) ?_;apply Q0;first|refine I4 (E8 rfl rfl) ?_ |refine I4 (w9 rfl rfl) ?_)|(refine P9 rfl ?_)|(refine R4 (by decide+kernel) ?_)|(refine S9 (by kernel_rfl) ?_))|(apply X4;first|(refine T9 rfl)|(refine U7 (by decide+kernel) ?_)|(refine U0 rfl ?_ ?_))|(refine K3 (id:=2) ?_;refine AA9 (b:=b1) ?_))
    all_goals exact J6 ((a1,c1),a2,c2) trivial (by repeat (first|exact Le.nil _|refine Le.cons (by (rfl)) ?_)) I8
  rintro ⟨⟨a1,c1⟩,a2,c2⟩-
  have hz:cliZ.length=613:=by unfold cliZ;exact o9 (m:=520) (by rw[show (big [Value.slice none 0 0,.int .i64 0,.slice none 0 0] keyZ cliE).length=48 from o9 (m:=38) rfl];rfl)
  have hw:=hlen S' [.slice a1 nn c1,.int .i64 0,.slice a2 vn c2] (cliX buf ed) hS' rfl rfl
  have hw1:=hone S' [.slice a1 nn c1,.int .i64 0,.slice a2 vn c2] (cliX buf ed) hS1' rfl rfl
  repeat' (first|(apply F3;first|(apply C8;refine A8 ?_)|(apply F4;refine F8 rfl rfl ?_;refine K5 (by rw[hw];rfl) ?_)|(apply H9;refine r9 rfl rfl rfl rfl hw1 hw hz rfl ?_))|(apply D7)|(apply H7)|(apply A7)|(apply D5))
  refine d9 (.own 142 4 a2 vn c2 L:: .own 9 1 a1 nn c1 l::(E++H)) (.inr rfl) rfl hw rfl (fun _ hh=>hh.sub (List.Sublist.cons _ (List.Sublist.cons _ (List.Sublist.refl _)))) ?_
  exact⟨S',E,a1,c1,a2,c2,rfl,hRS,rfl⟩
theorem A53 (G:Ctx) (H:List Ent) (zp:ByteArray) (za zb:Int) (zi zg zt:ByteArray) (s:Scr) (f:Fre s) (S P N K:List Value) [hN:Len N 520] [hK:Len K 38] (h:CliS G H s S P) (buf:ByteArray) (ed:Bool) (hN1:N.all (·.oneCell')=true) (hK1:K.all (·.oneCell')=true):
    SC Tryz.prog G 43 [.agg (wkD zp za zb zi zg zt S N P K (cliX buf ed)).toArray] H fun v H'=>∃S' P' E,v= .agg (wkD zp za zb zi zg zt S' N P' K (cliX buf ed)).toArray∧H'=E++H∧CliS G E s S' P':=by
  obtain⟨h1,na,nc,va,vc,rfl,h2,h3,h4⟩:=h
  haveI:Len S 33:=⟨h1.len⟩
  have h:=Aw2 G H zp za zb zi zg zt S N K na 1 nc va 0 vc buf ed (strs [xterm]) (vrs []) rfl rfl rfl rfl (by decide) (by decide) (fun S' E=>ScS G E s S') (fun S' E hh=>⟨hh.len,hh.one⟩) hN1 hK1 h1.one (fun H' hh=>Ac3 G H' s f S (h1.mono hh))
  refine AI2 h fun v H'=>?_
  rintro ⟨S',E,a1,c1,a2,c2,rfl,hS,rfl⟩
  exact⟨S',_,.own 142 4 a2 0 c2 (vrs []):: .own 9 1 a1 1 c1 (strs [xterm])::E,rfl,rfl,hS.mono (fun w hw=>hw.sub (List.Sublist.cons _ (List.Sublist.cons _ (List.Sublist.refl E)))),a1,c1,a2,c2,rfl,inferInstance,inferInstance,inferInstance⟩
end
section
set_option maxHeartbeats 2000000
instance paDec:DecidableEq Pa:=
  @instDecidableEqProd _ _ inferInstance (@instDecidableEqProd _ _ inferInstance (@instDecidableEqProd _ _ inferInstance (@instDecidableEqProd _ _ inferInstance (@instDecidableEqProd _ _ inferInstance inferInstance))))
theorem BO0 (c:Nat) (h:32≤c∧c≤126):(runP Y4 [(c:Int)]).2=[(1,(c:Int),0,e0,[],e0)]:=by
  have key:∀i<95,(runP Y4 [((32+i:Nat):Int)]).2=[(1,((32+i:Nat):Int),0,e0,[],e0)]:=by decide+kernel
  have:=key (c-32) (by omega)
  rwa [show 32+(c-32)=c from by omega] at this
theorem Aq4 (c:Nat) (h:32≤c∧c≤126):H5 (c:Int)=1:=by
  have key:∀i<95,H5 ((32+i:Nat):Int)=1:=by decide+kernel
  have:=key (c-32) (by omega)
  rwa [show 32+(c-32)=c from by omega] at this
theorem BD7 (c:Nat) (h:32≤c∧c≤126):feedU ⟨#[]⟩ ⟨#[UInt8.ofNat c]⟩=(⟨#[]⟩,[(c:Int)],0):=by
  have key:∀i<95,feedU ⟨#[]⟩ ⟨#[UInt8.ofNat (32+i)]⟩=(⟨#[]⟩,[((32+i:Nat):Int)],0):=by decide+kernel
  have:=key (c-32) (by omega)
  rwa [show 32+(c-32)=c from by omega] at this
theorem CF4 (c:Nat) (h:32≤c∧c≤126):AL1 0 (c:Int) 0 0=⟨#[UInt8.ofNat c]⟩:=by
  have key:∀i<95,AL1 0 ((32+i:Nat):Int) 0 0=⟨#[UInt8.ofNat (32+i)]⟩:=by decide+kernel
  have:=key (c-32) (by omega)
  rwa [show 32+(c-32)=c from by omega] at this
theorem Ap7:keysE (kSet fun _=>true)=0:=by decide+kernel
end
section
set_option maxHeartbeats 2000000
theorem Ag1 {g:UInt8→List UInt8}:∀(l:List UInt8),(∀b∈l,g b=[b])→l.flatMap g=l
  | [],_=>rfl
  | b::l,h=>by
    rw[List.flatMap_cons,h b List.mem_cons_self,Ag1 l fun x hx=>h x (List.mem_cons_of_mem _ hx)]
    rfl
theorem CJ0 {b:UInt8} {n:Nat} (h:32≤b.toNat∧b.toNat≤126) (hn:n<32∨n=255):b≠UInt8.ofNat n:=by
  intro e
  rw[e] at h
  rcases hn with hn|rfl
  · rw[show (UInt8.ofNat n).toNat=n from by simp;omega] at h
    omega
  · exact absurd h.2 (by decide)
theorem CB2 (c:Nat) (h:32≤c∧c≤126):(⟨((⟨#[UInt8.ofNat c]⟩:ByteArray).data.toList.flatMap (fun b=>if b=13 then [13,10] else [b])).toArray⟩:ByteArray)=⟨#[UInt8.ofNat c]⟩:=by
  have h1:UInt8.ofNat c≠13:=CJ0 (n:=13) (by rw[show (UInt8.ofNat c).toNat=c from by simp;omega];exact h) (.inl (by decide))
  show (⟨([UInt8.ofNat c].flatMap (fun b=>if b=13 then [13,10] else [b])).toArray⟩:ByteArray)=_
  rw[Ag1 _ fun b hb=>by rw[List.mem_singleton] at hb;subst hb;rw[if_neg h1]]
theorem As7 (l:List UInt8):strOfNums (u8s l)=⟨l.toArray⟩:=by
  unfold strOfNums u8s
  rw[List.map_map]
  congr 2
  refine(List.map_congr_left fun b _=>?_).trans (List.map_id _)
  simp
end
section
set_option maxHeartbeats 1000000
attribute [local irreducible] SW SL SQ AtQ SV SC BB LD PK Yields SO SOT SOA SY
instance :ZeroT Tryz.prog 42 (List.replicate 256 (.int .u8 0)):=⟨_,show still Tryz.prog (zeroValue 42)=some (.agg (List.replicate 256 (.int .u8 0)).toArray) by kernel_rfl,.agg _⟩
instance :ZeroT Tryz.prog 44 (List.replicate 512 (Value.int .u8 0)++List.replicate 8 (Value.int .u64 0)):=⟨_,show still Tryz.prog (zeroValue 44)=some (.agg (List.replicate 512 (Value.int .u8 0)++List.replicate 8 (Value.int .u64 0)).toArray) by kernel_rfl,.agg _⟩
instance :OffsT Tryz.prog 220 (AI6 2 256) (List.replicate 512 (.int .u8 0)):=⟨fun i=>some (i * 256,256),fun _=>by kernel_rfl,AK9 2 256⟩
attribute [local irreducible] negC
theorem CC0 (W:List Int) (hW:W.length=512) (j:Nat) (hj:j<2):take? ((octs ((W.drop 0).take 256)++octs ((W.drop 256).take 256)).drop ((j:Int).toNat * 256)) 256=some (octs ((W.drop (256 * j)).take 256)):=by
  rw[Int.toNat_natCast,AR5 _ _ (by simp [octs,hW];omega)]
  rcases (show j=0∨j=1 by omega) with rfl|rfl
  · rw[Nat.zero_mul,List.drop_zero,List.take_append_of_le_length (by simp [octs,hW])]
    simp [octs,List.map_take,List.take_take]
  · rw[Nat.one_mul,List.drop_append_of_le_length (by simp [octs,hW]),List.drop_eq_nil_of_le (by simp [octs,hW]),List.nil_append,List.take_of_length_le (by simp [octs,hW])]
theorem B84 (W:List Int) (hW:W.length=512) (j i:Nat) (hj:j<2) (hi:i<256):(octs ((W.drop (256 * j)).take 256))[(i:Int).toNat]? =some (.int .u8 (W.getD (256 * j+i) 0)):=by
  rw[Int.toNat_natCast,AX3 _ _ (by simp [hW];omega)]
  simp only[List.getD_eq_getElem?_getD,List.getElem?_take_of_lt hi,List.getElem?_drop]
theorem CA6 (W:List Int) (j:Nat):(octs ((W.drop (256 * j)).take 256)).all (·.oneCell')=true:=A75 _
theorem CB4 (W:List Int) (hW:W.length=512) (j:Nat) (hj:j<2):Nat.beq (octs ((W.drop (256 * j)).take 256)).length 256=true:=by
  rw[AA7,List.length_take,List.length_drop,hW,show min 256 (512-256 * j)=256 from by omega];rfl
theorem AV0 (G:Ctx) (H:List Ent) (W X:List Int) (hW:W.length=512) (hX:X.length=8) (hO:∀x∈W,Oct x):SV Tryz.prog G 71 [negV W X] H (.int .i64 (negE W)):=by
  have p0:=A69 X hW 0 (by omega)
  have p1:=A69 X hW 256 (by omega)
  have ck:=fun H s b hb=>BX1 G H s b hb
  refine M5 Tryz.func71 rfl rfl rfl rfl rfl ?_
  repeat' (first|(apply F3;first|(apply C8;refine A8 ?_)|(apply C9;refine D8 rfl rfl ?_)|(apply F4;refine F8 rfl rfl ?_;first|refine L8 p0 rfl ?_ |refine L8 p1 rfl ?_)|(apply D6;refine D9 rfl rfl ?_)|(apply G7;refine G8 (E8 rfl rfl) rfl ?_)|(apply P5;refine R7 (O6 rfl rfl (CF9 rfl rfl (by omega) (by simp) (by simp [octs,hW]) (by simp [octs,hW]))) rfl ?_)|(apply K9;refine O5 rfl rfl rfl rfl rfl rfl (fun _=>?_)))|(apply D7)|(apply F6)|(apply A7)|(apply D5))
  have hpj:=CC0 W hW
  have hij:=B84 W hW
  have hbj:=CB4 W hW
  have Hbj:=Lib.hid hbj
  have hoc:=fun k=>Bo3 hO k
  have Hpj:=Lib.hid hpj
  have Hij:=Lib.hid hij
  have Hoc:=Lib.hid hoc
  clear hpj hij hbj hoc hO p0 p1 hW hX
  generalize hR:octs ((W.drop 0).take 256)++octs ((W.drop 256).take 256)=R at *
  clear hR
  refine R9 (α:=Nat) (fun j=>[(11,.agg R.toArray),(12,.int .i64 j)]) (fun _=>H)
    (fun j=>j≤2∧∀i,i<256 * j→0≤W.getD i 0∧W.getD i 0≤5) (fun j=>2-j) 0 ⟨Nat.zero_le _,fun i hi=>absurd hi (Nat.not_lt_zero _)⟩ (by repeat (first|exact Le.nil _|refine Le.cons (by (rfl)) ?_)) I8 ?_
  rintro j ⟨hj,hs⟩
  by_cases hlt:(j:Int)<2
  · have hp:=Hpj.out j (by omega)
    have Hs:=Lib.hid hs
    clear hs
    have hb:=Hbj.out j (by omega)
    have ho1:=CA6 W j
    have hij:=fun i h=>Hij.out j i (by omega) h
    have Hij2:=Lib.hid hij
    clear hij
    generalize octs ((W.drop (256 * j)).take 256)=L at *
    repeat' (first|(apply F3;first|(apply C8;refine A8 ?_)|(apply C9;refine D8 rfl rfl ?_)|(apply E5;refine F5 rfl rfl rfl ?_;refine F7 rfl ?_)|(apply F4;refine F8 rfl rfl ?_;refine K5 hb ?_)|(apply U8;refine W9 (Ah0 rfl rfl rfl (by omega) (by omega) hp) rfl ?_)|(apply H9;refine M6 rfl rfl rfl rfl (by assumption) hb (by decide) rfl ?_)|(apply L6;refine O0 rfl rfl rfl rfl (fun _=>?_)))|(apply D7)|(apply G9)|(apply F6)|(apply A7)|(refine G5 rfl ?_;apply E9<;>intro hq<;>(try (exfalso;omega)))|(apply D5))
    refine R9 (α:=Nat) (fun i=>[(11,.agg R.toArray),(12,.int .i64 j),(15,.agg L.toArray),(16,.int .i64 i)]) (fun _=>H)
      (fun i=>i≤256∧∀k,k<256 * j+i→0≤W.getD k 0∧W.getD k 0≤5) (fun i=>256-i) 0 ⟨Nat.zero_le _,fun k hk=>Hs.out k (by omega)⟩ (by repeat (first|exact Le.nil _|refine Le.cons (by (rfl)) ?_)) I8 ?_
    rintro i ⟨hi,hs2⟩
    have Hs2:=Lib.hid hs2
    clear hs2
    by_cases hlt2:(i:Int)<256
    · have hv:=Hij2.out i (by omega)
      have ho:=Hoc.out (256 * j+i)
      obtain⟨ho1,ho2⟩:=ho
      generalize hx:W.getD (256 * j+i) 0=x at *
      by_cases hk:0≤x∧x≤5
      · have c:=fun H=>ck H x true (by simpa using hk)
        repeat' (first|(apply F3;first|(apply C8;refine A8 ?_)|(apply C9;refine D8 rfl rfl ?_)|(apply E5;refine F5 rfl rfl rfl ?_;first|(apply M0;refine L9 ⟨by omega,by omega⟩ ?_)|refine F7 rfl ?_)|(apply D6;refine D9 rfl rfl ?_)|(apply Y0;refine Z8 (Z7 rfl rfl rfl) rfl ?_)|(apply p8;refine x9 (AA5 (k:= .i64) rfl rfl ⟨by omega,by omega⟩) rfl ?_)|(apply U8;refine W9 (AK8 rfl rfl rfl (by omega) (by omega) hv) rfl ?_)|(apply H6;refine F9 rfl rfl rfl (c _) rfl rfl ?_))|(apply D7)|(apply G9)|(apply F6)|(apply A7)|(refine G5 rfl ?_;first|(apply I5)|(apply E9<;>intro hq<;>(try (exfalso;omega))))|(apply D5)|(apply J2))
        refine J6 (i+1) ⟨⟨by omega,fun k hk2=>?_⟩,by omega⟩ (by repeat (first|exact Le.nil _|refine Le.cons (by (rfl)) ?_)) I8
        rcases Nat.lt_or_ge k (256 * j+i) with h|h
        · exact Hs2.out k h
        · obtain rfl:k=256 * j+i:=by omega
          rw[hx];exact hk
      · have c:=fun H=>ck H x false (by simpa using hk)
        repeat' (first|(apply F3;first|(apply C8;refine A8 ?_)|(apply C9;refine D8 rfl rfl ?_)|(apply E5;refine F5 rfl rfl rfl ?_;refine F7 rfl ?_)|(apply D6;refine D9 rfl rfl ?_)|(apply Y0;refine Z8 (Z7 rfl rfl rfl) rfl ?_)|(apply p8;refine x9 (AA5 (k:= .i64) rfl rfl ⟨by omega,by omega⟩) rfl ?_)|(apply U8;refine W9 (AK8 rfl rfl rfl (by omega) (by omega) hv) rfl ?_)|(apply H6;refine F9 rfl rfl rfl (c _) rfl rfl ?_))|(apply D7)|(apply G9)|(apply H7)|(apply F6)|(apply A7)|(refine G5 rfl ?_;first|(apply I7)|(apply E9<;>intro hq<;>(try (exfalso;omega))))|(apply D5)|(apply J4)|(apply U1))
        refine M3 (by (exact .inr rfl)) rfl N7 ?_
        rw[Bd9 (256 * j+i) (by omega) (by rw[hx];exact hk)];rfl
    · obtain rfl:i=256:=by omega
      repeat' (first|(apply F3;first|(apply C8;refine A8 ?_)|(apply C9;refine D8 rfl rfl ?_)|(apply E5;refine F5 rfl rfl rfl ?_;first|(apply M0;refine L9 ⟨by omega,by omega⟩ ?_)|refine F7 rfl ?_))|(apply D7)|(apply N8)|(apply A7)|(refine G5 rfl ?_;apply I5)|(apply D5)|(apply J7)|(apply J2)|(apply J8))
      exact J6 (j+1) ⟨⟨by omega,fun k hk=>Hs2.out k (by omega)⟩,by omega⟩ (by repeat (first|exact Le.nil _|refine Le.cons (by (rfl)) ?_)) I8
  · obtain rfl:j=2:=by omega
    repeat' (first|(apply F3;first|(apply C8;refine A8 ?_)|(apply E5;refine F5 rfl rfl rfl ?_;refine F7 rfl ?_)|(apply D6;refine D9 rfl rfl ?_))|(apply D7)|(apply H7)|(apply N8)|(apply A7)|(refine G5 rfl ?_;apply I5)|(apply D5)|(apply J7)|(apply J8))
    refine M3 (by (exact .inr rfl)) rfl N7 ?_
    rw[Bz2 hs];rfl
end
end Go.Proofs.YtmmnimagbnlcmaaGreatDoor
section
namespace Go.Fw
open Go Go.RowKit Go.Sx
end Go.Fw
namespace Go.Proofs.YtmmnimagbnlcmaaGreatDoor
open Go Go.RowKit Go.Fw Go.Sx
set_option maxRecDepth 100000
set_option maxHeartbeats 1000000
attribute [local irreducible] SW SL SQ AtQ SV SC BB LD PK Yields SO SOT SOA SY
theorem Bu6 {P:Program} {t:TypeId} {x y:Operand} {K:Value→Prop} {a b:ByteArray} (h:a=b) (hk:K (.bool true)):BB P .eql t x y (.string a) (.string b) K:=AH9 (by rw[decide_eq_true h];exact hk)
attribute [local irreducible] negC wds
end Go.Proofs.YtmmnimagbnlcmaaGreatDoor
end
namespace Go.Proofs.YtmmnimagbnlcmaaGreatDoor
open Go Go.RowKit Go.Fw Go.Sx
set_option maxRecDepth 100000
section
set_option maxHeartbeats 2000000
def Y6:List Int:=List.replicate 512 0
def nW1:List Int:=(List.replicate 512 0).set 34 1
theorem AD0:Y6.length=512:=by simp [Y6]
theorem A34:negE Y6=0:=by decide+kernel
theorem CH1:Y6.getD 31 0=0∧Y6.getD 0 0=0∧nW1.getD 31 0=0∧nW1.getD 34 0=1∧nW1.getD 257 0=0∧nW1.getD 0 0=0:=by decide+kernel
theorem Az0:(∀x∈Y6,Oct x)∧∀x∈nW1,Oct x:=by
  have key:(∀x∈Y6,0≤x∧x≤255)∧∀x∈nW1,0≤x∧x≤255:=by decide+kernel
  exact key
end
section
set_option maxHeartbeats 2000000
attribute [local irreducible] SW SL SQ AtQ SV SC BB LD PK Yields SO SOT SOA SY negC
abbrev kAll:List Int:=kSet fun _=>true
end
section
set_option maxHeartbeats 2000000
attribute [local irreducible] SW SL SQ AtQ SV SC BB LD PK Yields SO SOT SOA SY negC
theorem Ae9 {P:Program} {x y:Operand} {t:TypeId} {a b:ByteArray} {K:Value→Prop} (h:a=b) (hk:K (.bool false)):BB P .neq t x y (.string a) (.string b) K:=AI0 (by rw[decide_eq_true h];exact hk)
instance psDec:DecidableEq Ps:=
  @instDecidableEqProd _ _ inferInstance (@instDecidableEqProd _ _ inferInstance (@instDecidableEqProd _ _ inferInstance (@instDecidableEqProd _ _ inferInstance inferInstance)))
theorem Bw6:(runP Y4 [120]).1=Y4:=by decide+kernel
theorem Bx6:(runP Y4 [120]).2=[(1,120,0,e0,[],e0)]:=BO0 120 (by decide)
theorem Bt1:feedU ⟨#[]⟩ ⟨#[120]⟩=(⟨#[]⟩,[120],0):=BD7 120 (by decide)
theorem B04 (G:Ctx) (H:List Ent) (s s':Scr) (f:Fre s) (S:List Value) (h:ScS G H s S) (A:List Ac) (ha:acts s (A.map plA) s') (aa:Option Addr) (ac:Nat) [h4:RdC G H aa (acs A)]:
    SC Tryz.prog G 31 [.agg S.toArray,.slice aa A.length ac] H fun v H'=>∃S' E,v= .tuple #[.agg S'.toArray,.string ⟨#[]⟩,.int .i64 0]∧H'=E++H∧ScS G E s' S':=by
  obtain⟨ga,gn,gc,oa,on,oc,pa,pn,pc,X,rfl,hS⟩:=h
  refine AI2 (Ba3 G H s s' f X ga gn gc oa on oc pa pn pc hS A ha aa ac) fun v H'=>?_
  rintro ⟨ga2,gn2,gc2,oa2,on2,oc2,pa2,pn2,pc2,X2,E,rfl,rfl,hS2⟩
  exact⟨_,E,rfl,rfl,ga2,gn2,gc2,oa2,on2,oc2,pa2,pn2,pc2,X2,rfl,hS2⟩
theorem B36 (G:Ctx) (H:List Ent) (M:Int) (hM:∀H w,Holds G H w→w.cell? ⟨2,0,none⟩=some (.int .i64 M)) (hT:∀H w,Holds G H w→Lib.Utf8Tabs 0 1 w)
    (s:Scr) (f:Fre s) (wb:Nat) (S N:List Value) (p0 p1 p2:Value) (K:List Value) [hN:Len N 520] [hK:Len K 38] (buf:ByteArray) (ed:Bool) (sent:ByteArray) (h:ScS G H s S) (h0:Int) (hh0:N[256]? =some (.int .u8 h0)) (hh0':(h0==1)=false):
    SC Tryz.prog G 130 [.pointer (some ⟨wb,0,none⟩),.string ⟨#[120]⟩] (.blk wb 135 (wkC S N [p0,p1,p2] K (cliW buf ed sent))::H) fun v H'=>∃S' E,v=resV []∧H'= .blk wb 135 (wkC S' N [p0,p1,p2] K (cliW buf ed sent))::(E++H)∧ScS G E (actS s 1 120) S':=by
  haveI hS:Len S 33:=⟨h.len⟩
  have cI:∀H',SV Tryz.prog G 10 [.bool false,.string ⟨#[120]⟩,.bool false] H' (.tuple #[.bool false,.string ⟨#[120]⟩]):=fun H'=>by
    have h:=A51 G H' false ⟨#[120]⟩ (by decide)
    rwa [show (mIn false (⟨#[120]⟩:ByteArray).data.toList).1=false from by decide+kernel,show strOfNums (u8s (mIn false (⟨#[120]⟩:ByteArray).data.toList).2)=⟨#[120]⟩ from by decide+kernel] at h
  have cF:=fun H=>Ao3 G H hT ⟨#[]⟩ ⟨#[120]⟩ (by decide) (by decide)
  rw[Bt1] at cF
  dsimp only at cF
  have cP:=fun (H':List Ent) (ao:Option Addr) (co:Nat) (h4:RdC G H' ao (ints [120]))=>Ai4 G H' M hM 0 0 e0 e0 e0 Aw4 [120] ao 1 co rfl (by decide)
  unfold RunR at cP
  rw[show runP (0,0,e0,e0,e0) [120]=(Y4,[(1,120,0,e0,[],e0)]) from Prod.ext Bw6 Bx6] at cP
  dsimp only at cP
  have cR:=fun (H':List Ent) (hh:∀w,Holds G H' w→Holds G H w) (A:List Ac) (hA:A.map plA=[(1,120,0,e0,[],e0)]) (aa:Option Addr) (ac:Nat) (h4:RdC G H' aa (acs A))=>B04 G H' s (actS s 1 120) f S (h.mono hh) A (.inl ⟨1,120,hA,.inl ⟨rfl,by decide,Aq4 120 (by decide)⟩,rfl⟩) aa ac
  have cH:=fun (E0:List Value) (H:List Ent) [HasBlk H wb 135 (wkC S N [p0,p1,p2] K (cliW buf ed sent))]=>BY1 G H wb S N [p0,p1,p2] K (cliW buf ed sent) 0 (by decide) h0 hh0 false hh0'
  have hlen:=AJ2 (S:=S) (N:=N) (K:=K) (P:=[p0,p1,p2]) (E:=cliW buf ed sent) (k:=614) rfl rfl rfl
  clear hM hT
  refine J3 Tryz.func130 rfl rfl rfl rfl rfl ?_
  repeat' (apply D7)
  refine j4 (α:=Unit) (fun _=>[(0,.pointer (some ⟨wb,0,none⟩)),(1,.string ⟨#[120]⟩)])
    (fun _=> .blk wb 135 (wkC S N [p0,p1,p2] K (cliW buf ed sent))::H) (fun _=>True) ?_ ?_
  · repeat' (first|(apply F3;first|(apply C8;refine A8 ?_)|(apply F4;refine F8 rfl rfl ?_;refine G6 rfl ?_)|(apply H6;first|refine F9 rfl rfl rfl (cH [] _) rfl rfl ?_ |refine F9 rfl rfl rfl (cI _) rfl rfl ?_)|(apply H9;refine U3 rfl rfl rfl rfl rfl rfl rfl ?_))|(apply U4;refine R5 (k:=0) I8 ?_)|(apply V6;first|(refine O9 rfl ?_)|(refine P8 rfl rfl rfl rfl (by kernel_rfl) (by decide+kernel) (by decide+kernel) ?_;first|(apply U5;refine I4 (V4 rfl rfl) ?_)|(apply Z0;refine I4 (X7 rfl rfl) ?_)|(apply Q0;refine I4 (E8 rfl rfl) ?_)|(apply AO9;refine I4 (K7 rfl rfl rfl) ?_)|(apply Y7;refine I4 (H8 rfl rfl) ?_))|(refine P9 rfl ?_)|(refine R4 (by decide+kernel) ?_)|(refine S9 (by kernel_rfl) ?_))|(apply X4;first|(refine T9 rfl)|(refine U7 (by decide+kernel) ?_)|(refine U0 rfl ?_ ?_))|(refine K3 (id:=0) ?_;refine AA9 (b:=wb) ?_))
    all_goals exact J6 () trivial (by repeat (first|exact Le.nil _|refine Le.cons (by (rfl)) ?_)) I8
  rintro ⟨⟩-
  repeat' (first|(apply F3;first|(apply C8;refine A8 ?_)|(apply C9;refine D8 rfl rfl ?_)|(apply F4;refine F8 rfl rfl ?_;refine G6 rfl ?_)|(apply D6;refine D9 rfl rfl ?_)|(apply G7;refine G8 (E8 rfl rfl) rfl ?_)|(apply Q6;refine U2 (K7 rfl rfl rfl) rfl ?_)|(apply K8;refine M8 (H8 rfl rfl) rfl ?_)|(apply H6;refine c_call rfl rfl rfl (cF _) rfl rfl ?_;rintro _ _ ⟨ao,co,rfl,rfl⟩)|(apply H9;refine U3 rfl rfl rfl rfl rfl rfl rfl ?_))|(apply D7)|((fail_if_success (refine K3 (id:=4) ?_));apply A7)|(apply D5))
  refine AF1 (.blk wb 135 (wkC S N [p0,p1,p2] K (cliW buf ed sent)):: .own 3 1 ao 1 co (ints [120])::H) (fun _ hw=>hw) ?_
  repeat' (first|(apply F3;first|(apply C8;refine A8 ?_)|(apply C9;refine D8 rfl rfl ?_)|(apply F4;refine F8 rfl rfl ?_;refine L8 (AG1 rfl) rfl ?_)|(apply D6;refine D9 rfl rfl ?_)|(apply G7;refine G8 (E8 rfl rfl) rfl ?_)|(apply Q6;refine U2 (K7 rfl rfl rfl) rfl ?_)|(apply K8;refine M8 (H8 rfl rfl) rfl ?_)|(apply H6;refine c_call rfl rfl rfl (cP _ _ _ inferInstance) rfl rfl ?_;rintro _ _ ⟨F,A,aa,ac,rfl,hlA,hA,hsl,hs2,rfl⟩)|(apply H9;refine AE0 (off:=7) (vs:=[.int .i64 0,.int .i64 0,.string e0,.string e0,.string e0]) rfl rfl rfl rfl rfl rfl (by rw[hlen];exact Nat.le_of_ble_eq_true rfl) (AY9 rfl (List.cons_ne_nil _ _)) rfl ?_))|(apply D7)|((fail_if_success (refine K3 (id:=6) ?_));apply A7)|(apply D5))
  refine AF1 (.blk wb 135 (wkC S N [p0,p1,p2] K (cliW buf ed sent))::(F++(.own 3 1 ao 1 co (ints [120])::H))) (fun _ hw=>hw) ?_
  have hi:RdC G (.blk wb 135 (wkC S N [p0,p1,p2] K (cliW buf ed sent))::(F++(.own 3 1 ao 1 co (ints [120])::H))) aa (acs A):=⟨fun w hw=>hs2.rd.here w (hw.sub (.cons _ (List.sublist_append_left F _)))⟩
  have hH:∀w,Holds G (.blk wb 135 (wkC S N [p0,p1,p2] K (cliW buf ed sent))::(F++(.own 3 1 ao 1 co (ints [120])::H))) w→Holds G H w:=fun w hw=>hw.sub (.cons _ ((List.sublist_cons_self _ _).trans (List.sublist_append_right F _)))
  clear cP cF
  repeat' (first|(apply F3;first|(apply C8;refine A8 ?_)|(apply C9;refine D8 rfl rfl ?_)|(apply F4;refine F8 rfl rfl ?_;refine L8 (AB3 rfl) rfl ?_)|(apply D6;refine D9 rfl rfl ?_)|(apply G7;refine G8 (E8 rfl rfl) rfl ?_)|(apply Q6;refine U2 (K7 rfl rfl rfl) rfl ?_)|(apply K8;refine M8 (H8 rfl rfl) rfl ?_)|(apply H6;refine c_call rfl rfl rfl (cR _ hH A hA aa ac hi) rfl rfl ?_;rintro _ _ ⟨S',E,rfl,rfl,hS2⟩;(have hl2:=hS2.len);(have ho2:=hS2.one))|(apply H9;refine AE0 (off:=12) rfl rfl rfl rfl ho2 hl2 (by rw[hlen];exact Nat.le_of_ble_eq_true rfl) (AH8 (m:=33) rfl hl2) rfl ?_))|(apply D7)|((fail_if_success (refine K3 (id:=7) ?_));apply A7)|(apply D5))
  repeat' (first|(apply F3;first|(apply C8;refine A8 ?_)|(apply C9;refine D8 rfl rfl ?_)|(apply E5;refine F5 rfl rfl rfl ?_;refine Ae9 rfl ?_))|(apply G9)|(apply A7)|(refine G5 rfl ?_;apply I5)|(apply D5))
  all_goals (skip)
  refine M9 _ (by (exact .inl rfl)) rfl (fun _ hw=>hw) ?_
  exact⟨S',E++F++[.own 3 1 ao 1 co (ints [120])],rfl,by simp,hS2.mono (fun w hw=>hw.sub ((List.sublist_append_left E F).trans (List.sublist_append_left _ _)))⟩
end
section
set_option maxHeartbeats 2000000
attribute [local irreducible] SW SL SQ AtQ SV SC BB LD PK Yields SO SOT SOA SY negC
theorem B34 (G:Ctx) (H:List Ent) (zp:ByteArray) (za zb:Int) (zi zg zt:ByteArray) (wb:Nat) (S N P K E:List Value) [hS:Len S 33] [hN:Len N 520] [hb:HasBlk H wb 135 (wkD zp za zb zi zg zt S N P K E)] (opt:Int) (ho:0≤opt∧opt≤255) (u:Int) (hu:N[256+opt.toNat]? =some (.int .u8 u)) (b:Bool) (hub:(u==1)=b):SV Tryz.prog G 134 [.pointer (some ⟨wb,0,none⟩),.int .i64 opt] H (.bool b):=by
  have hv:(wkD zp za zb zi zg zt S N P K E)[301+opt.toNat * 1]? =some (.int .u8 u):=by
    refine p9 (m:=33) (Nat.ble_eq_true_of_le (by show 45≤_;omega)) ?_
    refine AO4 (Nat.zero_le _) ?_
    rw[show 301+opt.toNat * 1-((cliA zp za zb zi zg zt).length+33)-([]:List Value).length=256+opt.toNat from by show 301+opt.toNat * 1-45-0=_;omega]
    exact hu
  generalize wkD zp za zb zi zg zt S N P K E=cs at *
  refine P7 Tryz.func134 rfl rfl rfl rfl rfl ?_
  repeat' (first|(apply F3;first|(apply C8;refine A8 ?_)|(apply C9;refine D8 rfl rfl ?_)|(apply E5;refine F5 rfl rfl rfl ?_;refine F7 rfl ?_)|(apply F4;refine F8 rfl rfl ?_;refine G6 hv ?_)|(apply D6;refine D9 rfl rfl ?_)|(apply G7;first|refine G8 (E8 rfl rfl) rfl ?_ |refine G8 (w9 rfl rfl) rfl ?_)|(apply M4;refine N9 (AB7 rfl rfl rfl (by omega) (by omega)) rfl ?_)|(apply K8;refine M8 (H8 rfl rfl) rfl ?_))|(apply D7)|(apply H7)|(apply A7)|(apply D5))
  refine M3 (by (exact .inr rfl)) rfl N7 ?_
  exact congrArg Value.bool hub
theorem Bl4 (G:Ctx) (H:List Ent) (s:Scr) (f:Fre s) (S:List Value) (h:ScS G H s S) (A:List Ac) (hA:A.length≤9000000) (hg:goodD s (A.map plA)) (hr0:∀y∈A,Sl ints G H y.2.2.2.2.1) (aa:Option Addr) (ac:Nat) [h4:RdC G H aa (acs A)]:
    SC Tryz.prog G 31 [.agg S.toArray,.slice aa A.length ac] H fun v H'=>∃S' E,v= .tuple #[.agg S'.toArray,.string ⟨#[]⟩,.int .i64 0]∧H'=E++H∧ScS G E (runD s (A.map plA)) S':=by
  obtain⟨ga,gn,gc,oa,on,oc,pa,pn,pc,X,rfl,hS⟩:=h
  refine AI2 (Bx2 G H s f X ga gn gc oa on oc pa pn pc hS A hA hg hr0 aa ac) fun v H'=>?_
  rintro ⟨ga2,gn2,gc2,oa2,on2,oc2,pa2,pn2,pc2,X2,E,rfl,rfl,hS2⟩
  exact⟨_,E,rfl,rfl,ga2,gn2,gc2,oa2,on2,oc2,pa2,pn2,pc2,X2,rfl,hS2⟩
theorem Be9 (G:Ctx) (H:List Ent) (M:Int) (hM:∀H w,Holds G H w→w.cell? ⟨2,0,none⟩=some (.int .i64 M)) (hT:∀H w,Holds G H w→Lib.Utf8Tabs 0 1 w)
    (zp:ByteArray) (za zb:Int) (zi zg zt:ByteArray) (hzp:zp.size≤1000000) (hzq:okP (za,zb,zi,zg,zt))
    (s:Scr) (f:Fre s) (wb:Nat) (S N:List Value) (p0 p1 p2:Value) (K:List Value) [hN:Len N 520] [hK:Len K 38] (E0:List Value) (hE0:E0.length=8) (h:ScS G H s S) (h0:Int) (hh0:N[256]? =some (.int .u8 h0)) (hh0':(h0==1)=false)
    (d:ByteArray) (hd:d.size≤1000000) (hi1:(mIn false d.data.toList).1=false) (hi2:strOfNums (u8s (mIn false d.data.toList).2)=d)
    (yp:ByteArray) (L:List Int) (e:Int) (hf:feedU zp d=(yp,L,e)) (hL:L.length≤4000000) (ya yb:Int) (yi yg yt:ByteArray) (B:List Pa) (hP:runP (za,zb,zi,zg,zt) L=((ya,yb,yi,yg,yt),B)) (hg:goodD s B):
    SC Tryz.prog G 130 [.pointer (some ⟨wb,0,none⟩),.string d] (.blk wb 135 (wkD zp za zb zi zg zt S N [p0,p1,p2] K E0)::H) fun v H'=>∃S' E,v=resV []∧H'= .blk wb 135 (wkD yp ya yb yi yg yt S' N [p0,p1,p2] K E0)::(E++H)∧ScS G E (runD s B) S':=by
  haveI hS:Len S 33:=⟨h.len⟩
  have cI:∀H',SV Tryz.prog G 10 [.bool false,.string d,.bool false] H' (.tuple #[.bool false,.string d]):=fun H'=>by
    have h:=A51 G H' false d (by omega)
    rwa [hi1,hi2] at h
  have cF:=fun H=>Ao3 G H hT zp d (by omega) (by omega)
  rw[hf] at cF
  dsimp only at cF
  have cP:=fun (H':List Ent) (ao:Option Addr) (co:Nat) (h4:RdC G H' ao (ints L))=>Ai4 G H' M hM za zb zi zg zt hzq L ao L.length co rfl hL
  unfold RunR at cP
  rw[hP] at cP
  dsimp only at cP
  have cR:=fun (H':List Ent) (hh:∀w,Holds G H' w→Holds G H w) (A:List Ac) (hlA:A.length≤9000000) (hA:A.map plA=B) (hr0:∀y∈A,Sl ints G H' y.2.2.2.2.1) (aa:Option Addr) (ac:Nat) (h4:RdC G H' aa (acs A))=>Bl4 G H' s f S (h.mono hh) A hlA (by rw[hA];exact hg) hr0 aa ac
  have cH:=fun (E1:List Value) (H:List Ent) [HasBlk H wb 135 (wkD zp za zb zi zg zt S N [p0,p1,p2] K E0)]=>B34 G H zp za zb zi zg zt wb S N [p0,p1,p2] K E0 0 (by decide) h0 hh0 false hh0'
  have hlen:=fun (zp:ByteArray) (za zb:Int) (zi zg zt:ByteArray)=>AK7 (zp:=zp) (za:=za) (zb:=zb) (zi:=zi) (zg:=zg) (zt:=zt) (S:=S) (N:=N) (K:=K) (P:=[p0,p1,p2]) (E:=E0) (k:=614) rfl hE0 rfl
  clear hM hT hf hi1 hi2 hP hL hzp hzq hh0 hh0'
  refine J3 Tryz.func130 rfl rfl rfl rfl rfl ?_
  repeat' (apply D7)
  refine j4 (α:=Unit) (fun _=>[(0,.pointer (some ⟨wb,0,none⟩)),(1,.string d)])
    (fun _=> .blk wb 135 (wkD zp za zb zi zg zt S N [p0,p1,p2] K E0)::H) (fun _=>True) ?_ ?_
  · repeat' (first|(apply F3;first|(apply C8;refine A8 ?_)|(apply F4;refine F8 rfl rfl ?_;refine G6 rfl ?_)|(apply H6;first|refine F9 rfl rfl rfl (cH [] _) rfl rfl ?_ |refine F9 rfl rfl rfl (cI _) rfl rfl ?_)|(apply H9;refine U3 rfl rfl rfl rfl rfl rfl rfl ?_))|(apply U4;refine R5 (k:=0) I8 ?_)|(apply V6;first|(refine O9 rfl ?_)|(refine P8 rfl rfl rfl rfl (by kernel_rfl) (by decide+kernel) (by decide+kernel) ?_;first|(apply U5;refine I4 (V4 rfl rfl) ?_)|(apply Z0;refine I4 (X7 rfl rfl) ?_)|(apply Q0;refine I4 (E8 rfl rfl) ?_)|(apply AO9;refine I4 (K7 rfl rfl rfl) ?_)|(apply Y7;refine I4 (H8 rfl rfl) ?_))|(refine P9 rfl ?_)|(refine R4 (by decide+kernel) ?_)|(refine S9 (by kernel_rfl) ?_))|(apply X4;first|(refine T9 rfl)|(refine U7 (by decide+kernel) ?_)|(refine U0 rfl ?_ ?_))|(refine K3 (id:=0) ?_;refine AA9 (b:=wb) ?_))
    all_goals exact J6 () trivial (by repeat (first|exact Le.nil _|refine Le.cons (by (rfl)) ?_)) I8
  rintro ⟨⟩-
  repeat' (first|(apply F3;first|(apply C8;refine A8 ?_)|(apply C9;refine D8 rfl rfl ?_)|(apply F4;refine F8 rfl rfl ?_;refine G6 rfl ?_)|(apply D6;refine D9 rfl rfl ?_)|(apply G7;refine G8 (E8 rfl rfl) rfl ?_)|(apply Q6;refine U2 (K7 rfl rfl rfl) rfl ?_)|(apply K8;refine M8 (H8 rfl rfl) rfl ?_)|(apply H6;refine c_call rfl rfl rfl (cF _) rfl rfl ?_;rintro _ _ ⟨ao,co,rfl,rfl⟩)|(apply H9;refine U3 rfl rfl rfl rfl rfl rfl rfl ?_))|(apply D7)|((fail_if_success (refine K3 (id:=4) ?_));apply A7)|(apply D5))
  refine AF1 (.blk wb 135 (wkD yp za zb zi zg zt S N [p0,p1,p2] K E0):: .own 3 1 ao L.length co (ints L)::H) (fun _ hw=>hw) ?_
  repeat' (first|(apply F3;first|(apply C8;refine A8 ?_)|(apply C9;refine D8 rfl rfl ?_)|(apply F4;refine F8 rfl rfl ?_;refine L8 (AG1 rfl) rfl ?_)|(apply D6;refine D9 rfl rfl ?_)|(apply G7;refine G8 (E8 rfl rfl) rfl ?_)|(apply Q6;refine U2 (K7 rfl rfl rfl) rfl ?_)|(apply K8;refine M8 (H8 rfl rfl) rfl ?_)|(apply H6;refine c_call rfl rfl rfl (cP _ _ _ inferInstance) rfl rfl ?_;rintro _ _ ⟨F,A,aa,ac,rfl,hlA,hA,hsl,hs2,rfl⟩)|(apply H9;refine AE0 (off:=7) (vs:=[.int .i64 ya,.int .i64 yb,.string yi,.string yg,.string yt]) rfl rfl rfl rfl rfl rfl (by rw[hlen];exact Nat.le_of_ble_eq_true rfl) (AY9 rfl (List.cons_ne_nil _ _)) rfl ?_))|(apply D7)|((fail_if_success (refine K3 (id:=6) ?_));apply A7)|(apply D5))
  refine AF1 (.blk wb 135 (wkD yp ya yb yi yg yt S N [p0,p1,p2] K E0)::(F++(.own 3 1 ao L.length co (ints L)::H))) (fun _ hw=>hw) ?_
  have hi:RdC G (.blk wb 135 (wkD yp ya yb yi yg yt S N [p0,p1,p2] K E0)::(F++(.own 3 1 ao L.length co (ints L)::H))) aa (acs A):=⟨fun w hw=>hs2.rd.here w (hw.sub (.cons _ (List.sublist_append_left F _)))⟩
  have hsl2:∀y∈A,Sl ints G (.blk wb 135 (wkD yp ya yb yi yg yt S N [p0,p1,p2] K E0)::(F++(.own 3 1 ao L.length co (ints L)::H))) y.2.2.2.2.1:=fun y hy=>(hsl y hy).mono (fun w hw=>hw.sub (.cons _ (List.sublist_append_left F _)))
  have hH:∀w,Holds G (.blk wb 135 (wkD yp ya yb yi yg yt S N [p0,p1,p2] K E0)::(F++(.own 3 1 ao L.length co (ints L)::H))) w→Holds G H w:=fun w hw=>hw.sub (.cons _ ((List.sublist_cons_self _ _).trans (List.sublist_append_right F _)))
  clear cP cF
  subst hA
  repeat' (first|(apply F3;first|(apply C8;refine A8 ?_)|(apply C9;refine D8 rfl rfl ?_)|(apply F4;refine F8 rfl rfl ?_;refine L8 (AB3 rfl) rfl ?_)|(apply D6;refine D9 rfl rfl ?_)|(apply G7;refine G8 (E8 rfl rfl) rfl ?_)|(apply Q6;refine U2 (K7 rfl rfl rfl) rfl ?_)|(apply K8;refine M8 (H8 rfl rfl) rfl ?_)|(apply H6;refine c_call rfl rfl rfl (cR _ hH A hlA rfl hsl2 aa ac hi) rfl rfl ?_;rintro _ _ ⟨S',E,rfl,rfl,hS2⟩;(have hl2:=hS2.len);(have ho2:=hS2.one))|(apply H9;refine AE0 (off:=12) rfl rfl rfl rfl ho2 hl2 (by rw[hlen];exact Nat.le_of_ble_eq_true rfl) (AH8 (m:=33) rfl hl2) rfl ?_))|(apply D7)|((fail_if_success (refine K3 (id:=7) ?_));apply A7)|(apply D5))
  repeat' (first|(apply F3;first|(apply C8;refine A8 ?_)|(apply C9;refine D8 rfl rfl ?_)|(apply E5;refine F5 rfl rfl rfl ?_;refine Ae9 rfl ?_))|(apply G9)|(apply A7)|(refine G5 rfl ?_;apply I5)|(apply D5))
  all_goals (skip)
  refine M9 _ (by (exact .inl rfl)) rfl (fun _ hw=>hw) ?_
  exact⟨S',E++F++[.own 3 1 ao L.length co (ints L)],rfl,by simp,hS2.mono (fun w hw=>hw.sub ((List.sublist_append_left E F).trans (List.sublist_append_left _ _)))⟩
end
section
set_option maxHeartbeats 2000000
attribute [local irreducible] SW SL SQ AtQ SV SC BB LD PK Yields SO SOT SOA SY negC
abbrev xT:List Tk:=[(1,0,0,⟨#[120]⟩)]
theorem CI8:(feedR 0 0 0 ⟨#[]⟩ false ⟨#[120]⟩).out=xT:=by decide+kernel
theorem CC9:(feedR 0 0 0 ⟨#[]⟩ false ⟨#[120]⟩).mode=0∧(feedR 0 0 0 ⟨#[]⟩ false ⟨#[120]⟩).cmd=0∧(feedR 0 0 0 ⟨#[]⟩ false ⟨#[120]⟩).opt=0∧(feedR 0 0 0 ⟨#[]⟩ false ⟨#[120]⟩).buf=[]∧(feedR 0 0 0 ⟨#[]⟩ false ⟨#[120]⟩).over=false:=by decide+kernel
theorem Bv1 (G:Ctx) (H:List Ent) (M:Int) (hM:∀H w,Holds G H w→w.cell? ⟨2,0,none⟩=some (.int .i64 M)) (hT:∀H w,Holds G H w→Lib.Utf8Tabs 0 1 w)
    (s:Scr) (f:Fre s) (wb:Nat) (S N:List Value) (p0 p1 p2:Value) (K:List Value) [hN:Len N 520] [hK:Len K 38] (buf:ByteArray) (ed:Bool) (sent:ByteArray) (h:ScS G H s S) (h0:Int) (hh0:N[256]? =some (.int .u8 h0)) (hh0':(h0==1)=false):
    SC Tryz.prog G 74 [.pointer (some ⟨wb,0,none⟩),.string ⟨#[120]⟩] (.blk wb 135 (wkC S N [p0,p1,p2] K (cliW buf ed sent))::H) fun v H'=>∃S' E,v= .int .i64 0∧H'= .blk wb 135 (wkC S' N [p0,p1,p2] K (cliW buf ed sent))::(E++H)∧ScS G E (actS s 1 120) S':=by
  haveI hS:Len S 33:=⟨h.len⟩
  have cF:∀H,SC Tryz.prog G 129 [wireV 0 0 0 ⟨#[]⟩ false,.string ⟨#[120]⟩] H (fun v H'=>∃a' c',v= .tuple #[wireV 0 0 0 ⟨#[]⟩ false,.slice a' 1 c',.int .i64 0]∧H'= .own 225 4 a' 1 c' (toks xT)::H):=fun H=>by
    have h:=BD9 G H 0 0 0 ⟨#[]⟩ false ⟨#[120]⟩ (by decide+kernel) (by decide)
    obtain⟨e1,e2,e3,e4,e5⟩:=CC9
    rw[CI8] at h
    unfold wireR at h
    rw[e1,e2,e3,e4,e5,show strOfNums []=(⟨#[]⟩:ByteArray) from by decide+kernel] at h
    exact h
  have cD:=fun H' (hh:∀w,Holds G H' w→Holds G H w)=>B36 G H' M hM hT s f wb S N p0 p1 p2 K buf ed sent (h.mono hh) h0 hh0 hh0'
  have hlen:=AJ2 (S:=S) (N:=N) (K:=K) (P:=[p0,p1,p2]) (E:=cliW buf ed sent) (k:=614) rfl rfl rfl
  have el0:take? ((toks xT).drop ((0:Int).toNat * 4)) 4=some [.int .i64 1,.int .i64 0,.int .i64 0,.string ⟨#[120]⟩]:=rfl
  have hlx:(toks xT).length=1 * 4:=rfl
  generalize toks xT=vs at *
  clear hM hT
  refine J3 Tryz.func74 rfl rfl rfl rfl rfl ?_
  repeat' (first|(apply F3;first|(apply C8;refine A8 ?_)|(apply C9;refine D8 rfl rfl ?_)|(apply E5;refine F5 rfl rfl rfl ?_;refine F7 rfl ?_)|(apply F4;refine F8 rfl rfl ?_;first|refine K5 rfl ?_ |refine L8 rfl rfl ?_)|(apply D6;refine D9 rfl rfl ?_)|(apply G7;refine G8 (E8 rfl rfl) rfl ?_)|(apply Q6;refine U2 (K7 rfl rfl rfl) rfl ?_)|(apply K8;refine M8 (H8 rfl rfl) rfl ?_)|(apply H6;refine c_call rfl rfl rfl (cF _) rfl rfl ?_;rintro _ _ ⟨a1,c1,rfl,rfl⟩)|(apply J5;first|refine s_call (Q5 rfl rfl) rfl ?_ |refine s_call (Q3 rfl rfl) rfl ?_)|(apply H9;first|refine M6 rfl rfl rfl rfl rfl rfl rfl rfl ?_ |(refine AE0 (off:=0) (vs:=[.int .i64 0,.int .i64 0,.int .i64 0,.string ⟨#[]⟩,.bool false]) rfl rfl rfl rfl rfl rfl (by rw[hlen];exact Nat.le_of_ble_eq_true rfl) (AY9 rfl (List.cons_ne_nil _ _)) rfl ?_))|(apply L6;refine O0 rfl rfl rfl rfl (fun _=>?_)))|(apply D7)|(apply G9)|(apply F6)|(apply A7)|(refine G5 rfl ?_;apply I5)|(apply D5))
  all_goals (skip)
  rename_i b5
  refine AF1 (.blk wb 135 (wkC S N [p0,p1,p2] K (cliW buf ed sent)):: .blk b5 24 [.int .i64 0,.int .i64 0,.int .i64 0,.string ⟨#[]⟩,.bool false]:: .own 225 4 a1 1 c1 vs::H) (fun _ hw=>hw) ?_
  clear cF
  refine AF8 2 (AF9 ?_)
  repeat' (first|(apply F3;first|(apply C8;refine A8 ?_)|(apply C9;refine D8 rfl rfl ?_)|(apply E5;refine F5 rfl rfl rfl ?_;first|(apply M0;refine L9 ⟨by omega,by omega⟩ ?_)|refine F7 rfl ?_)|(apply F4;first|(refine F8 rfl rfl ?_;refine G6 rfl ?_)|(refine F8 rfl rfl ?_;refine Y5 el0 rfl ?_))|(apply D6;refine D9 rfl rfl ?_)|(apply G7;refine G8 (E8 rfl rfl) rfl ?_)|(apply M4;refine N9 (K6 rfl rfl rfl hlx (by omega) (by omega)) rfl ?_)|(apply H6;refine c_call rfl rfl rfl (AL4 (tb:=wb) (cD _ I8)) rfl rfl ?_;rintro _ _ ⟨S',E,rfl,rfl,hS2⟩)|(apply H9;refine M6 rfl rfl rfl rfl rfl rfl rfl rfl ?_)|(apply L6;refine O0 rfl rfl rfl rfl (fun _=>?_)))|(apply D7)|(apply AN0)|(apply G9)|(apply H7)|(apply N8)|(apply F6)|(apply A7)|(refine G5 rfl ?_;first|(apply I7)|(apply I5))|(apply D5)|(apply J7)|(apply J2)|(apply J8))
  all_goals (skip)
  rename_i bq
  refine M9 _ (by (exact .inr rfl)) rfl (fun _ hw=>hw) ?_
  exact⟨S',E++[.blk bq 225 [.int .i64 1,.int .i64 0,.int .i64 0,.string ⟨#[120]⟩],.blk b5 24 [.int .i64 0,.int .i64 0,.int .i64 0,.string ⟨#[]⟩,.bool false],.own 225 4 a1 1 c1 vs],rfl,by simp,hS2.mono (fun w hw=>hw.sub (List.sublist_append_left E _))⟩
theorem Bv2 (G:Ctx) (H:List Ent) (M:Int) (hM:∀H w,Holds G H w→w.cell? ⟨2,0,none⟩=some (.int .i64 M)) (hT:∀H w,Holds G H w→Lib.Utf8Tabs 0 1 w)
    (s s':Scr) (f:Fre s) (wb:Nat) (S N:List Value) (p0 p1 p2:Value) (K:List Value) [hN:Len N 520] [hK:Len K 38] (buf:ByteArray) (sent:ByteArray) (h:ScS G H s S)
    (u0 h1:Int) (hu0:N[0]? =some (.int .u8 u0)) (hu0':(u0==1)=false) (hh1:N[257]? =some (.int .u8 h1)) (hh1':(h1==1)=false)
    (d d2 d3:ByteArray) (hd:d.size≤4000) (e2:strOfNums (u8s (d.data.toList.flatMap outB))=d2) (hd2:d2.size≤4000000) (e3:escS d2=d3) (hd3:d3.size≤8000000) (hz:sent.size≤4000000)
    (d1:ByteArray) (hd1:(⟨(d.data.toList.flatMap (fun b=>if b=13 then [13,10] else [b])).toArray⟩:ByteArray)=d1) (hd1':d1.size≤8000) (r:ByteArray) (L:List Int) (e:Int) (hf:feedU ⟨#[]⟩ d1=(r,L,e)) (hL:L.length≤100000) (ha:acts s (runP Y4 L).2 s'):
    SC Tryz.prog G 75 [.pointer (some ⟨wb,0,none⟩),.string d,.int .i64 0] (.blk wb 135 (wkC S N [p0,p1,p2] K (cliW buf false sent))::H) fun v H'=>∃S' E,v= .int .i64 0∧H'= .blk wb 135 (wkC S' N [p0,p1,p2] K (cliW buf false (sent++d3)))::(E++H)∧ScS G E s' S':=by
  haveI hS:Len S 33:=⟨h.len⟩
  have cD:=fun H' (hh:∀w,Holds G H' w→Holds G H w)=>BI1 G H' M hM hT s s' f wb S N p0 p1 p2 K buf false (sent++d3) (h.mono hh) d d1 hd hd1 hd1' r L e hf hL ha
  have cI:=fun (H:List Ent) [HasBlk H wb 135 (wkC S N [p0,p1,p2] K (cliW buf false (sent++d3)))]=>BY1 G H wb S N [p0,p1,p2] K (cliW buf false (sent++d3)) 1 (by decide) h1 hh1 false hh1'
  have cX:=fun H=>Bu7 G H M hM wb S N p0 p1 p2 K buf false sent u0 hu0 hu0' d d2 d3 (by omega) e2 hd2 e3 hz hd3
  clear hf hd1 hL ha hT hM
  refine AH0 Tryz.func75 rfl rfl rfl rfl rfl ?_
  repeat' (first|(apply F3;first|(apply C8;refine A8 ?_)|(apply C9;refine D8 rfl rfl ?_)|(apply E5;refine F5 rfl rfl rfl ?_;refine F7 rfl ?_)|(apply F4;refine F8 rfl rfl ?_;refine G6 (p9 rfl (p9 rfl (p9 rfl rfl))) ?_)|(apply D6;refine D9 rfl rfl ?_)|(apply I6;refine I9 rfl rfl ?_;apply O1;refine O3 rfl ?_)|(apply G7;refine G8 (E8 rfl rfl) rfl ?_)|(apply Y0;refine Z8 (Z7 rfl rfl rfl) rfl ?_)|(apply K8;refine M8 (H8 rfl rfl) rfl ?_)|(apply H6;first|(refine c_call rfl rfl rfl (AL4 (tb:=wb) (cX _)) rfl rfl ?_;rintro _ _ ⟨rfl,rfl⟩)|refine F9 rfl rfl rfl (cI _) rfl rfl ?_ |(refine c_call rfl rfl rfl (AL4 (tb:=wb) (cD _ I8)) rfl rfl ?_;rintro _ _ ⟨S',E,rfl,rfl,hS2⟩))|(apply I1;refine J9 rfl rfl rfl rfl ?_;apply I5))|(apply D7)|(apply G9)|(apply H7)|(apply A7)|(refine G5 rfl ?_;first|(apply I7)|(apply I5))|(apply D5))
  all_goals (skip)
  refine M9 _ (by (exact .inr rfl)) rfl (fun _ hw=>hw) ?_
  exact⟨S',E,rfl,rfl,hS2⟩
end
section
set_option maxHeartbeats 2000000
attribute [local irreducible] SW SL SQ AtQ SV SC BB LD PK Yields SO SOT SOA SY negC
theorem By5 (G:Ctx) (H:List Ent) (wb:Nat) (S N P K E:List Value) [hS:Len S 33] (m:Int) (hm:S[11]? =some (.int .i64 m)) (d:ByteArray) (s':Scr) (E2:List Value)
    (cB:∀H',(∀w,Holds G H' w→Holds G H w)→SC Tryz.prog G 74 [.pointer (some ⟨wb,0,none⟩),.string d] (.blk wb 135 (wkC S N P K E)::H') fun v H''=>∃S' F,v= .int .i64 0∧H''= .blk wb 135 (wkC S' N P K E2)::(F++H')∧ScS G F s' S'):
    SC Tryz.prog G 44 [.pointer (some ⟨wb,0,none⟩),.agg (evC 1 d 0 0).toArray] (.blk wb 135 (wkC S N P K E)::H) fun v H'=>∃S' F,v= .int .i64 0∧H'= .blk wb 135 (wkC S' N P K E2)::(F++H)∧ScS G F s' S':=by
  have hv:(wkC S N P K E)[23]? =some (.int .i64 m):=by
    refine AO4 (by decide) ?_
    exact hm
  generalize wkC S N P K E=cs at *
  refine J3 Tryz.func44 rfl rfl rfl rfl rfl ?_
  repeat' (first|(apply F3;first|(apply C8;refine A8 ?_)|(apply C9;refine D8 rfl rfl ?_)|(apply E5;refine F5 rfl rfl rfl ?_;refine F7 rfl ?_)|(apply F4;first|(refine F8 rfl rfl ?_;refine G6 rfl ?_)|(refine F8 rfl rfl ?_;refine G6 hv ?_))|(apply D6;refine D9 rfl rfl ?_)|(apply G7;first|refine G8 (E8 rfl rfl) rfl ?_ |refine G8 (w9 rfl rfl) rfl ?_)|(apply K8;refine M8 (H8 rfl rfl) rfl ?_)|(apply H6;refine c_call rfl rfl rfl (AL4 (tb:=wb) (cB _ I8)) rfl rfl ?_;rintro _ _ ⟨S',F,rfl,rfl,hS2⟩)|(apply K9;refine O5 rfl rfl rfl rfl rfl rfl (fun _=>?_)))|(apply D7)|(apply H7)|(apply F6)|(apply A7)|(refine G5 rfl ?_;apply I7)|(apply D5)|(apply J4)|(apply U1))
  all_goals (skip)
  rename_i b3
  refine M9 _ (by (exact .inr rfl)) rfl (fun _ hw=>hw) ?_
  exact⟨S',F++[.blk b3 76 (evC 1 d 0 0)],rfl,by simp,hS2.mono (fun w hw=>hw.sub (List.sublist_append_left F _))⟩
abbrev z8:List Int:=[0,0,0,0,0,0,0,0]
theorem A07:Y6.getD 256 0=0∧Y6.getD 257 0=0:=by decide+kernel
theorem CM1 (G:Ctx) (H:List Ent) (M:Int) (hM:∀H w,Holds G H w→w.cell? ⟨2,0,none⟩=some (.int .i64 M)) (hT:∀H w,Holds G H w→Lib.Utf8Tabs 0 1 w) (s:Scr) (f:Fre s) (S P:List Value) (h:CliS G H s S P):
    SC Tryz.prog G 18 [.agg (wkC S (negC Y6 z8) P (octs kAll) (cliX ⟨#[]⟩ false)).toArray,.agg (evC 1 ⟨#[120]⟩ 0 0).toArray] H fun v H'=>∃S2 P2 E,v= .tuple #[.agg (wkC S2 (negC Y6 z8) P2 (octs kAll) (cliX ⟨#[]⟩ false)).toArray,.string ⟨#[]⟩,.int .i64 0]∧H'=E++H∧CliS G E (actS s 1 120) S2 P2:=by
  haveI:Len (negC Y6 z8) 520:=⟨AE8 AD0 rfl⟩
  haveI:Len (octs kAll) 38:=⟨by rw[AA7];exact o6 _⟩
  obtain⟨a1,a2⟩:=A07
  refine BO2 G H M hM s (actS s 1 120) f S P (negC Y6 z8) (negC Y6 z8) (octs kAll) h ⟨#[]⟩ ⟨#[]⟩ false false _ (by decide) (AB5 _ _) (AB5 _ _) (AG2 _) (fun H'=>?_) (fun H'=>?_) _ rfl rfl (fun H' wb S' P' hS'=>?_)
  · have h:=AV0 G H' Y6 z8 AD0 rfl Az0.1
    rwa [A34] at h
  · have h:=AV1 G H' kAll (o6 _)
    rwa [Ap7] at h
  · obtain⟨hs1,na,nc,va,vc,rfl,-⟩:=hS'
    haveI:Len S' 33:=⟨hs1.len⟩
    have hm:S'[11]? =some (.int .i64 s.modes):=by
      obtain⟨ga,gn,gc,oa,on,oc,pa,pn,pc,X,rfl,-⟩:=hs1
      rfl
    refine AI2 (By5 G H' wb S' (negC Y6 z8) _ (octs kAll) _ s.modes hm ⟨#[120]⟩ (actS s 1 120) _ (fun H2 hh=>Bv1 G H2 M hM hT s f wb S' (negC Y6 z8) _ _ _ (octs kAll) ⟨#[]⟩ false ⟨#[]⟩ (hs1.mono hh) 0 (by rw[Al0 z8 AD0 256 (by decide),a1]) rfl)) fun v H''=>?_
    rintro ⟨S2,F,rfl,rfl,hF⟩
    exact⟨S2,F,rfl,rfl,.inl hF⟩
theorem CL3 (G:Ctx) (H:List Ent) (M:Int) (hM:∀H w,Holds G H w→w.cell? ⟨2,0,none⟩=some (.int .i64 M)) (hT:∀H w,Holds G H w→Lib.Utf8Tabs 0 1 w) (s:Scr) (f:Fre s) (S P:List Value) (h:CliS G H s S P):
    SC Tryz.prog G 18 [.agg (wkC S (negC Y6 z8) P (octs kAll) (cliX ⟨#[]⟩ false)).toArray,.agg (evC 2 ⟨#[]⟩ 0 121).toArray] H fun v H'=>∃S2 P2 E,v= .tuple #[.agg (wkC S2 (negC Y6 z8) P2 (octs kAll) (cliX ⟨#[]⟩ false)).toArray,.string (⟨#[]⟩++⟨#[121]⟩),.int .i64 0]∧H'=E++H∧CliS G E (actS s 1 121) S2 P2:=by
  haveI:Len (negC Y6 z8) 520:=⟨AE8 AD0 rfl⟩
  haveI:Len (octs kAll) 38:=⟨by rw[AA7];exact o6 _⟩
  obtain⟨a1,a2⟩:=A07
  obtain⟨b1,b2,b3,b4,b5,b6⟩:=CH1
  refine BO2 G H M hM s (actS s 1 121) f S P (negC Y6 z8) (negC Y6 z8) (octs kAll) h ⟨#[]⟩ ⟨#[]⟩ false false _ (by decide) (AB5 _ _) (AB5 _ _) (AG2 _) (fun H'=>?_) (fun H'=>?_) _ rfl rfl (fun H' wb S' P' hS'=>?_)
  · have h:=AV0 G H' Y6 z8 AD0 rfl Az0.1
    rwa [A34] at h
  · have h:=AV1 G H' kAll (o6 _)
    rwa [Ap7] at h
  · obtain⟨hs1,na,nc,va,vc,rfl,-⟩:=hS'
    haveI:Len S' 33:=⟨hs1.len⟩
    have hm:S'[11]? =some (.int .i64 s.modes):=by
      obtain⟨ga,gn,gc,oa,on,oc,pa,pn,pc,X,rfl,-⟩:=hs1
      rfl
    have e2:strOfNums (u8s ((⟨#[121]⟩:ByteArray).data.toList.flatMap outB))=⟨#[121]⟩:=by decide+kernel
    have e3:escS ⟨#[121]⟩=⟨#[121]⟩:=by decide+kernel
    refine AI2 (B95 G H' wb S' (negC Y6 z8) _ (octs kAll) _ s.modes hm 0 121 ⟨#[121]⟩ (actS s 1 121) _ (fun H2=>?_) (fun H2 hh=>Bv2 G H2 M hM hT s (actS s 1 121) f wb S' (negC Y6 z8) _ _ _ (octs kAll) ⟨#[]⟩ ⟨#[]⟩ (hs1.mono hh) 0 0 (by rw[Al0 z8 AD0 0 (by decide),b2]) rfl (by rw[Al0 z8 AD0 257 (by decide),a2]) rfl ⟨#[121]⟩ _ _ (Nat.le_of_ble_eq_true rfl) e2 (Nat.le_of_ble_eq_true rfl) e3 (Nat.le_of_ble_eq_true rfl) (by decide) _ (CB2 121 (by decide)) (Nat.le_of_ble_eq_true rfl) _ _ _ (BD7 121 (by decide)) (Nat.le_of_ble_eq_true rfl) (.inl ⟨1,121,BO0 121 (by decide),.inl ⟨rfl,by decide,Aq4 121 (by decide)⟩,rfl⟩))) fun v H''=>?_
    · have h:=Bz3 G H2 0 121 0 0 0 0 s.modes (by decide) (.inr rfl) (fun _=>by unfold isR;omega) (fun h=>absurd rfl h) (by decide+kernel) (by decide+kernel) (by decide+kernel)
      rw[show AL1 0 121 0 0=⟨#[121]⟩ from CF4 121 (by decide)] at h
      exact h
    · rintro ⟨S2,F,rfl,rfl,hF⟩
      exact⟨S2,F,rfl,rfl,.inl hF⟩
end
section
set_option maxHeartbeats 2000000
theorem Br4 {P:Program} {G:Ctx} {H:List Ent} {g:FuncId} {args:List Value} {R R':Value→List Ent→Prop} (h:SC P G g args H R) (hi:∀v H' w,R v H'→Holds G H' w→R' v H'):SC P G g args H R':=⟨h.1,fun w hw=>(h.2 w hw).mono fun _ w' ⟨v,H',h1,h2,h3⟩=>⟨v,H',h1,h2,hi v H' w' h3 h2⟩⟩
attribute [local irreducible] SW SL SQ AtQ SV SC BB LD PK Yields SO SOT SOA SY negC
theorem Ak1 (G:Ctx) (H:List Ent) (d:ByteArray):SV Tryz.prog G 19 [.string d] H (.agg (evC 1 d 0 0).toArray):=by
  refine M5 Tryz.func19 rfl rfl rfl rfl rfl ?_
  repeat' (first|(apply F3;first|(apply C8;refine A8 ?_)|(apply C9;refine D8 rfl rfl ?_)|(apply P5;refine R7 (O6 rfl rfl rfl) rfl ?_)|(apply H9;refine M6 rfl rfl rfl rfl rfl rfl rfl rfl ?_)|(apply L6;refine O0 rfl rfl rfl rfl (fun _=>?_)))|(apply D7)|(apply H7)|(apply A7)|(apply D5))
  refine d9 (H) (by (exact .inr rfl)) rfl (by (rfl)) rfl I8 ?_
  exact⟨rfl,rfl⟩
theorem CliS.cells {G:Ctx} {E:List Ent} {s:Scr} {S P:List Value} (h:CliS G E s S P) (N K:List Value) [hN:Len N 520] [hK:Len K 38] (hN1:N.all (·.oneCell')=true) (hK1:K.all (·.oneCell')=true) (buf:ByteArray) (ed:Bool):(wkC S N P K (cliX buf ed)).length=613∧(wkC S N P K (cliX buf ed)).all (·.oneCell')=true:=by
  haveI:Len S 33:=⟨h.1.len⟩
  have hlP:P.length=3:=by obtain⟨_,_,_,_,h,-⟩:=h.2;rw[h];rfl
  have hP1:P.all (·.oneCell')=true:=by obtain⟨_,_,_,_,h,-⟩:=h.2;rw[h];rfl
  exact⟨AJ2 hlP rfl rfl,j3 rfl h.1.one (j3 rfl hN1 (j3 hP1 hK1 rfl))⟩
theorem Ah4 (G:Ctx) (H:List Ent) (w h:Nat) (hw:1≤w∧w≤160) (hh:1≤h∧h≤60) (x:Nat→Int):
    SC Tryz.prog G 5 [.int .i64 w,.int .i64 h,.agg (endsL x).toArray] H fun v H'=>∃S P E,v= .tuple #[.agg (wkC S (negC Y6 (endsX x)) P (octs kAll) (cliX ⟨#[]⟩ false)).toArray,.int .i64 0]∧H'=E++H∧CliS G E (newS w h) S P:=by
  haveI:Len (negC Y6 (endsX x)) 520:=⟨AE8 AD0 rfl⟩
  haveI:Len (octs kAll) 38:=⟨by rw[AA7];exact o6 _⟩
  have hz:=AE5
  have hcn:(newS w h).C.length=w * h:=by show (List.replicate _ _).length=_;rw[List.length_replicate]
  have hdn:(newS w h).D.length=w * h:=by show (List.replicate _ _).length=_;rw[List.length_replicate]
  have hE:∀(ga oa:Option Addr) (oc:Nat) (na:Option Addr) (nc:Nat) (xa:Option Addr) (xc:Nat),w * h≤oc→CliS G [.own 142 4 xa 0 xc (vrs []),.own 9 1 na 1 nc (strs [xterm]),.own 97 4 oa (w * h) oc (qds (newS w h).D),.own 97 4 ga (w * h) (w * h) (qds (newS w h).C)] (newS w h) (scnC (newS w h) ga (w * h) (w * h) oa (w * h) oc none 0 0) (cliP na 1 nc 0 xa 0 xc):=by
    intro ga oa oc na nc xa xc ho
    refine⟨⟨ga,w * h,w * h,oa,w * h,oc,none,0,0,[],rfl,⟨inferInstance,inferInstance,⟨fun w _=>At.nil w none⟩,fun _ hx=>(nomatch hx),rfl,hcn.symm,hdn.symm,rfl,Nat.le_refl _,ho⟩⟩,na,nc,xa,xc,rfl,inferInstance,inferInstance,inferInstance⟩
  have hnew:∀(S:List Value) (na:Option Addr) (nc:Nat) (xa:Option Addr) (xc:Nat),newC S x na 1 nc xa 0 xc=wkC S (negC Y6 (endsX x)) (cliP na 1 nc 0 xa 0 xc) (octs kAll) (cliX ⟨#[]⟩ false):=fun S na nc xa xc=>by
    unfold newC wkC Y6
    rw[show cliE=cliX ⟨#[]⟩ false from rfl]
    unfold big
    rw[List.append_assoc,List.nil_append]
  have cN0:=fun (H:List Ent) (a:Option Addr) (c:Nat) (h1:RdC G H a [.string ⟨#[88,84,69,82,77]⟩]) (h2:RdC G H none (vrs []))=>BZ9 (h1:=h1) G H w h hw hh [xterm] a 1 c [] none 0 0 x rfl (fun y hy=>by rw[List.mem_singleton] at hy;subst hy;decide) (by decide) rfl (by decide) (by decide+kernel) (by decide+kernel)
    (fun H a c _ _=>by
      have h:=AL2 G H [xterm] a 1 c 0 rfl (fun y hy=>by rw[List.mem_singleton] at hy;subst hy;decide) (by decide)
      exact h)
    (fun H _=>AP3 G H [] none 0 0 rfl rfl (by decide))
  have cN:∀(H:List Ent) (a:Option Addr) (c:Nat),RdC G H a [.string ⟨#[88,84,69,82,77]⟩]→RdC G H none (vrs [])→SC Tryz.prog G 21 [.int .i64 w,.int .i64 h,.slice a 1 c,.slice none 0 0,.agg (endsL x).toArray] H fun v H'=>∃S P E,v= .tuple #[.agg (wkC S (negC Y6 (endsX x)) P (octs kAll) (cliX ⟨#[]⟩ false)).toArray,.int .i64 0]∧H'=E++H∧CliS G E (newS w h) S P:=fun H a c h1 h2=>Br4 (cN0 H a c h1 h2) (by
    rintro v H' w0 ⟨ga,oa,oc,na,nc,xa,xc,rfl,rfl⟩ hw0
    have hoc:w * h≤oc:=(B70 (G:=G) (e:=97) (sz:=4) (xs:=qds (newS w h).D) (H:= .own 97 4 ga (w * h) (w * h) (qds (newS w h).C)::H)).here w0 hw0.drop.drop
    exact⟨_,_,_,by rw[hnew],rfl,hE ga oa oc na nc xa xc hoc⟩)
  clear cN0 hE hnew
  refine AH0 Tryz.func5 rfl rfl rfl rfl rfl ?_
  repeat' (first|(apply F3;first|(apply C8;refine A8 ?_)|(apply D6;refine D9 rfl rfl ?_)|(apply K9;refine O5 rfl rfl rfl rfl rfl rfl (fun _=>?_))|(apply L6;refine O0 rfl rfl rfl rfl (fun _=>?_)))|(apply D7)|((fail_if_success (refine K3 (id:=1) ?_));apply A7)|(apply D5))
  haveI hv0:∀H,RdC G H none (vrs []):=fun H=>⟨fun _ _=> .inl rfl⟩
  clear hcn hdn
  generalize newS w h=s0 at *
  rename_i b5 b6
  repeat' (first|(apply F3;first|(apply C8;refine A8 ?_)|(apply C9;refine D8 rfl rfl ?_)|(apply F4;refine F8 rfl rfl ?_;refine K5 rfl ?_)|(apply D6;refine D9 rfl rfl ?_)|(apply Q6;refine U2 (K7 rfl rfl rfl) rfl ?_)|(apply H6;refine c_call rfl rfl rfl (cN _ _ _ inferInstance (hv0 _)) rfl rfl ?_;rintro _ _ ⟨S,P,E,rfl,rfl,hE1⟩;(obtain⟨hl,ho⟩:=hE1.cells (negC Y6 (endsX x)) (octs kAll) (AB5 _ _) (AG2 _) ⟨#[]⟩ false);(generalize hC:wkC S (negC Y6 (endsX x)) P (octs kAll) (cliX ⟨#[]⟩ false)=C at *))|(apply H9;refine r9 rfl rfl rfl rfl ho hl hz rfl ?_)|(apply V8;refine M7 rfl rfl rfl rfl rfl rfl rfl rfl rfl rfl (fun _=>?_)))|(apply H7)|(apply A7)|(apply D5))
  refine d9 (E++H) (by (exact .inr rfl)) rfl hl rfl (fun _ hw=>hw.sub (by repeat (first|exact List.Sublist.refl _|refine List.Sublist.append (List.Sublist.refl _) ?_ |refine List.Sublist.cons _ ?_))) ⟨S,P,E,by rw[hC];rfl,rfl,hE1⟩
theorem Bu3:(actS (newS 3 1) 1 120).C=[(120,0,0,0),(32,0,0,0),(32,0,0,0)]:=by decide+kernel
theorem Ah5 (G:Ctx) (H:List Ent) (M:Int) (hM:∀H w,Holds G H w→w.cell? ⟨2,0,none⟩=some (.int .i64 M)) (hT:∀H w,Holds G H w→Lib.Utf8Tabs 0 1 w):
    SV Tryz.prog G 6 [] H (.bool true):=by
  haveI:Len (negC Y6 z8) 520:=⟨AE8 AD0 rfl⟩
  haveI:Len (octs kAll) 38:=⟨by rw[AA7];exact o6 _⟩
  have f1:Fre (newS 3 1):=Fre.new (by decide)
  have f2:Fre (actS (newS 3 1) 1 120):=f1.act (.inl ⟨rfl,by decide,Aq4 120 (by decide)⟩)
  have cF:∀H,SC Tryz.prog G 5 [.int .i64 3,.int .i64 1,.agg #[.int .u64 0,.int .u64 0,.int .u64 0,.int .u64 0,.int .u64 0,.int .u64 0,.int .u64 0,.int .u64 0]] H fun v H'=>∃S P E,v= .tuple #[.agg (wkC S (negC Y6 z8) P (octs kAll) (cliX ⟨#[]⟩ false)).toArray,.int .i64 0]∧H'=E++H∧CliS G E (newS 3 1) S P:=fun H=>Ah4 G H 3 1 (by decide) (by decide) (fun _=>0)
  have cE:=fun H=>Ak1 G H ⟨#[120]⟩
  have cX0:=fun (H:List Ent) (S P:List Value) (E:List Ent) (hE:CliS G E (newS 3 1) S P) (hh:∀w,Holds G H w→Holds G E w)=>CM1 G H M hM hT (newS 3 1) f1 S P (hE.mono hh)
  have cY0:=fun (H:List Ent) (S P:List Value) (E:List Ent) (hE:CliS G E (actS (newS 3 1) 1 120) S P) (hh:∀w,Holds G H w→Holds G E w)=>CL3 G H M hM hT (actS (newS 3 1) 1 120) f2 S P (hE.mono hh)
  have hcell:∀(E:List Ent) (s:Scr) (S P:List Value) (h:CliS G E s S P),_:=fun E s S P h=>h.cells (negC Y6 z8) (octs kAll) (AB5 _ _) (AG2 _) ⟨#[]⟩ false
  have hz:=AE5
  have hxc:=Bu3
  clear f1 f2
  generalize hs1:newS 3 1=s1 at *
  generalize hs2:actS s1 1 120=s2 at *
  clear hM hT
  refine At5 Tryz.func6 rfl rfl rfl rfl rfl ?_
  repeat' (first|(apply F3;first|(apply C8;refine A8 ?_)|(apply C9;refine D8 rfl rfl ?_)|(apply D6;refine D9 rfl rfl ?_)|(apply Q6;refine U2 (K7 rfl rfl rfl) rfl ?_)|(apply P5;refine R7 (O6 rfl rfl rfl) rfl ?_)|(apply H6;refine c_call rfl rfl rfl (cF _) rfl rfl ?_;rintro _ _ ⟨S,P,E,rfl,rfl,hE⟩;(obtain⟨hl,ho⟩:=hcell _ _ _ _ hE);(have cX:=fun H hh=>cX0 H S P E hE hh);(generalize hC:wkC S (negC Y6 z8) P (octs kAll) (cliX ⟨#[]⟩ false)=C at *))|(apply H9;refine r9 rfl rfl rfl rfl ho hl hz rfl ?_)|(apply L6;refine O0 rfl rfl rfl rfl (fun _=>?_)))|(apply D7)|((fail_if_success (refine K3 (id:=2) ?_));apply A7)|(apply D5))
  rename_i b1
  have hlb:Nat.beq C.length 613=true:=by rw[hl];rfl
  refine j4 (α:=List Value×List Value×List Ent) (fun _=>[(1,.pointer (some ⟨b1,0,none⟩)),(2,.int .i64 0),(3,.string ⟨#[]⟩),(4,.int .i64 0)]) (fun g=> .blk b1 56 (wkC g.1 (negC Y6 z8) g.2.1 (octs kAll) (cliX ⟨#[]⟩ false))::(g.2.2++H)) (fun g=>CliS G g.2.2 s2 g.1 g.2.1) ?_ ?_
  · repeat' (first|(apply F3;first|(apply C8;refine A8 ?_)|(apply F4;refine F8 rfl rfl ?_;refine K5 hlb ?_)|(apply H6;first|refine F9 rfl rfl rfl (cE _) rfl rfl ?_ |(refine c_call rfl rfl rfl (cX _ (fun _ hw=>hw.sub (by repeat (first|exact List.sublist_append_left _ _|refine List.Sublist.cons _ ?_)))) rfl rfl ?_;rintro _ _ ⟨S2,P2,E2,rfl,rfl,hE2⟩;(obtain⟨hl2,ho2⟩:=hcell _ _ _ _ hE2);(have cY:=fun H hh=>cY0 H S2 P2 E2 hE2 hh);(generalize hC2:wkC S2 (negC Y6 z8) P2 (octs kAll) (cliX ⟨#[]⟩ false)=C2 at *)))|(apply H9;refine r9 rfl rfl rfl rfl ho2 hl2 hl rfl ?_))|(apply U4;refine R5 (k:=0) (fun _ hw=>hw.sub (by repeat (first|exact List.Sublist.refl _|refine List.Sublist.cons _ ?_ |refine List.Sublist.trans ?_ (List.sublist_append_right _ _)))) ?_)|(apply V6;first|(refine O9 rfl ?_)|(refine P8 rfl rfl rfl rfl (by kernel_rfl) (by decide+kernel) (by decide+kernel) ?_;first|(apply U5;refine I4 (V4 rfl rfl) ?_)|(apply Z0;refine I4 (X7 rfl rfl) ?_)|(apply AO9;refine I4 (K7 rfl rfl rfl) ?_))|(refine P9 rfl ?_)|(refine R4 (by decide+kernel) ?_)|(refine S9 (by kernel_rfl) ?_))|(apply X4;first|(refine T9 rfl)|(refine U7 (by decide+kernel) ?_)|(refine U0 rfl ?_ ?_))|(refine K3 (id:=2) ?_;refine AA9 (b:=b1) ?_))
    all_goals
      subst hC2
      exact J6 (S2,P2,E2) hE2 (by repeat (first|exact Le.nil _|refine Le.cons (by (rfl)) ?_)) (fun _ hw=>hw.sub (by repeat (first|exact List.Sublist.refl _|refine List.Sublist.append (List.Sublist.refl _) ?_ |refine List.Sublist.cons_cons _ ?_ |refine List.Sublist.trans ?_ (List.sublist_append_right _ _))))
  rintro ⟨S2,P2,E2⟩ hE2
  dsimp only at hE2 ⊢
  (obtain⟨hl2,ho2⟩:=hcell _ _ _ _ hE2)
  have cY:=fun H hh=>cY0 H S2 P2 E2 hE2 hh
  obtain⟨ga,gn,gc,hS14,hgn,hr⟩:∃(ga:Option Addr) (gn gc:Nat),(wkC S2 (negC Y6 z8) P2 (octs kAll) (cliX ⟨#[]⟩ false))[14]? =some (.slice ga gn gc)∧gn=3∧RdC G E2 ga (qds [(120,0,0,0),(32,0,0,0),(32,0,0,0)]):=by
    obtain⟨⟨ga,gn,gc,oa,on,oc,pa,pn,pc,X,rfl,hS⟩,-⟩:=hE2
    have h1:=hS.g
    have h2:=hS.gn'
    rw[hxc] at h1 h2
    exact⟨ga,gn,gc,AO4 (by decide) rfl,h2,h1⟩
  subst hgn
  generalize hC2:wkC S2 (negC Y6 z8) P2 (octs kAll) (cliX ⟨#[]⟩ false)=C2 at *
  have hlb2:Nat.beq C2.length 613=true:=by rw[hl2];rfl
  clear cX hlb cX0 cY0 cF
  repeat' (first|(apply F3;first|(apply C8;refine A8 ?_)|(apply C9;refine D8 rfl rfl ?_)|(apply F4;refine F8 rfl rfl ?_;refine K5 hlb2 ?_)|(apply D6;refine D9 rfl rfl ?_)|(apply Q6;refine U2 (K7 rfl rfl rfl) rfl ?_)|(apply P5;refine R7 (O6 rfl rfl rfl) rfl ?_)|(apply H6;refine c_call rfl rfl rfl (cY _ (fun _ hw=>hw.sub (by repeat (first|exact List.sublist_append_left _ _|refine List.Sublist.cons _ ?_)))) rfl rfl ?_;rintro _ _ ⟨S3,P3,E3,rfl,rfl,hE3⟩;(obtain⟨hl3,ho3⟩:=hcell _ _ _ _ hE3);(generalize hC3:wkC S3 (negC Y6 z8) P3 (octs kAll) (cliX ⟨#[]⟩ false)=C3 at *))|(apply H9;refine r9 rfl rfl rfl rfl ho3 hl3 hz rfl ?_)|(apply L6;refine O0 rfl rfl rfl rfl (fun _=>?_)))|(apply D7)|((fail_if_success (refine K3 (id:=4) ?_));apply A7)|(apply D5))
  rename_i b5
  have hin:∀w,Holds G (.blk b5 56 C3::(E3++ .blk b1 56 C2::(E2++H))) w→Holds G (.blk b1 56 C2::(E2++H)) w:=(fun _ hw=>hw.sub (by repeat (first|exact List.Sublist.refl _|refine List.Sublist.cons _ ?_ |refine List.Sublist.trans ?_ (List.sublist_append_right _ _))))
  refine AF1 _ hin ?_
  haveI hri:RdC G (.blk b1 56 C2::(E2++H)) ga (qds [(120,0,0,0),(32,0,0,0),(32,0,0,0)]):=⟨fun w hw=>hr.here w (hw.sub (.cons _ (List.sublist_append_left E2 H)))⟩
  have hlx:(qds [(120,0,0,0),(32,0,0,0),(32,0,0,0)]).length=3 * 4:=rfl
  have hel:(qds [(120,0,0,0),(32,0,0,0),(32,0,0,0)])[(0:Int).toNat * 4+0]? =some (.int .i64 120):=rfl
  generalize qds [(120,0,0,0),(32,0,0,0),(32,0,0,0)]=vs at *
  clear hE2 hr hin cY hE3 hE
  repeat' (first|(apply F3;first|(apply C8;refine A8 ?_)|(apply C9;refine D8 rfl rfl ?_)|(apply E5;refine F5 rfl rfl rfl ?_;first|(refine Bu6 rfl ?_)|(refine F7 rfl ?_))|(apply F4;refine F8 rfl rfl ?_;first|refine G6 hS14 ?_ |refine X5 hel ?_)|(apply D6;refine D9 rfl rfl ?_)|(apply I6;refine I9 rfl rfl ?_;apply Q9;refine Q8 rfl ?_)|(apply G7;first|refine G8 (E8 rfl rfl) rfl ?_ |refine G8 (w9 rfl rfl) rfl ?_)|(apply M4;refine N9 (K6 rfl rfl rfl hlx (by omega) (by omega)) rfl ?_)|(apply J5;refine s_call (Q5 rfl rfl) rfl ?_)|(apply I1;refine J9 rfl rfl rfl rfl ?_;apply I7)|(refine G8 (AL8 rfl rfl (by rw[hlx];decide)) rfl ?_))|(apply H7)|(apply A7)|(apply D5))
  all_goals (skip)
  refine M3 (by (exact .inr rfl)) rfl (.cons _ (List.sublist_append_right E2 H)) ?_
  rfl
end
section
set_option maxHeartbeats 2000000
attribute [local irreducible] SW SL SQ AtQ SV SC BB LD PK Yields SO SOT SOA SY negC
theorem Bb6 (G:Ctx) (H:List Ent) (zp:ByteArray) (za zb:Int) (zi zg zt:ByteArray) (yp:ByteArray) (ya yb:Int) (yi yg yt:ByteArray) (s2:Scr) (wb:Nat) (S N:List Value) (p0 p1 p2:Value) (K:List Value) [hS:Len S 33] [hN:Len N 520] [hK:Len K 38] (E0:List Value) (hE0:E0.length=8)
    (d:ByteArray) (hd:d.size≤4096) (ho:(feedR 0 0 0 ⟨#[]⟩ false d).out=[(1,0,0,d)]) (hw:(feedR 0 0 0 ⟨#[]⟩ false d).mode=0∧(feedR 0 0 0 ⟨#[]⟩ false d).cmd=0∧(feedR 0 0 0 ⟨#[]⟩ false d).opt=0∧(feedR 0 0 0 ⟨#[]⟩ false d).buf=[]∧(feedR 0 0 0 ⟨#[]⟩ false d).over=false)
    (cD:∀H',(∀w,Holds G H' w→Holds G H w)→SC Tryz.prog G 130 [.pointer (some ⟨wb,0,none⟩),.string d] (.blk wb 135 (wkD zp za zb zi zg zt S N [p0,p1,p2] K E0)::H') fun v H''=>∃S' E,v=resV []∧H''= .blk wb 135 (wkD yp ya yb yi yg yt S' N [p0,p1,p2] K E0)::(E++H')∧ScS G E s2 S'):
    SC Tryz.prog G 74 [.pointer (some ⟨wb,0,none⟩),.string d] (.blk wb 135 (wkD zp za zb zi zg zt S N [p0,p1,p2] K E0)::H) fun v H'=>∃S' E,v= .int .i64 0∧H'= .blk wb 135 (wkD yp ya yb yi yg yt S' N [p0,p1,p2] K E0)::(E++H)∧ScS G E s2 S':=by
  have cF:∀H,SC Tryz.prog G 129 [wireV 0 0 0 ⟨#[]⟩ false,.string d] H (fun v H'=>∃a' c',v= .tuple #[wireV 0 0 0 ⟨#[]⟩ false,.slice a' 1 c',.int .i64 0]∧H'= .own 225 4 a' 1 c' (toks [(1,0,0,d)])::H):=fun H=>by
    have h:=BD9 G H 0 0 0 ⟨#[]⟩ false d (by decide+kernel) (by omega)
    obtain⟨e1,e2,e3,e4,e5⟩:=hw
    rw[ho] at h
    unfold wireR at h
    rw[e1,e2,e3,e4,e5,show strOfNums []=(⟨#[]⟩:ByteArray) from by decide+kernel] at h
    exact h
  have hlen:=AK7 (zp:=zp) (za:=za) (zb:=zb) (zi:=zi) (zg:=zg) (zt:=zt) (S:=S) (N:=N) (K:=K) (P:=[p0,p1,p2]) (E:=E0) (k:=614) rfl hE0 rfl
  have el0:take? ((toks [(1,0,0,d)]).drop ((0:Int).toNat * 4)) 4=some [.int .i64 1,.int .i64 0,.int .i64 0,.string d]:=rfl
  have hlx:(toks [(1,0,0,d)]).length=1 * 4:=rfl
  generalize toks [(1,0,0,d)]=vs at *
  clear ho hw
  refine J3 Tryz.func74 rfl rfl rfl rfl rfl ?_
  repeat' (first|(apply F3;first|(apply C8;refine A8 ?_)|(apply C9;refine D8 rfl rfl ?_)|(apply E5;refine F5 rfl rfl rfl ?_;refine F7 rfl ?_)|(apply F4;refine F8 rfl rfl ?_;first|refine K5 rfl ?_ |refine L8 rfl rfl ?_)|(apply D6;refine D9 rfl rfl ?_)|(apply G7;refine G8 (E8 rfl rfl) rfl ?_)|(apply Q6;refine U2 (K7 rfl rfl rfl) rfl ?_)|(apply K8;refine M8 (H8 rfl rfl) rfl ?_)|(apply H6;refine c_call rfl rfl rfl (cF _) rfl rfl ?_;rintro _ _ ⟨a1,c1,rfl,rfl⟩)|(apply J5;first|refine s_call (Q5 rfl rfl) rfl ?_ |refine s_call (Q3 rfl rfl) rfl ?_)|(apply H9;first|refine M6 rfl rfl rfl rfl rfl rfl rfl rfl ?_ |(refine AE0 (off:=0) (vs:=[.int .i64 0,.int .i64 0,.int .i64 0,.string ⟨#[]⟩,.bool false]) rfl rfl rfl rfl rfl rfl (by rw[hlen];exact Nat.le_of_ble_eq_true rfl) (AY9 rfl (List.cons_ne_nil _ _)) rfl ?_))|(apply L6;refine O0 rfl rfl rfl rfl (fun _=>?_)))|(apply D7)|(apply G9)|(apply F6)|(apply A7)|(refine G5 rfl ?_;apply E9<;>intro hq<;>(try (exfalso;omega)))|(apply D5))
  all_goals (skip)
  rename_i b5
  refine AF1 (.blk wb 135 (wkD zp za zb zi zg zt S N [p0,p1,p2] K E0):: .blk b5 24 [.int .i64 0,.int .i64 0,.int .i64 0,.string ⟨#[]⟩,.bool false]:: .own 225 4 a1 1 c1 vs::H) (fun _ hw=>hw) ?_
  clear cF
  refine AF8 2 (AF9 ?_)
  repeat' (first|(apply F3;first|(apply C8;refine A8 ?_)|(apply C9;refine D8 rfl rfl ?_)|(apply E5;refine F5 rfl rfl rfl ?_;first|(apply M0;refine L9 ⟨by omega,by omega⟩ ?_)|refine F7 rfl ?_)|(apply F4;first|(refine F8 rfl rfl ?_;refine G6 rfl ?_)|(refine F8 rfl rfl ?_;refine Y5 el0 rfl ?_))|(apply D6;refine D9 rfl rfl ?_)|(apply G7;refine G8 (E8 rfl rfl) rfl ?_)|(apply M4;refine N9 (K6 rfl rfl rfl hlx (by omega) (by omega)) rfl ?_)|(apply H6;refine c_call rfl rfl rfl (AL4 (tb:=wb) (cD _ I8)) rfl rfl ?_;rintro _ _ ⟨S',E,rfl,rfl,hS2⟩)|(apply H9;refine M6 rfl rfl rfl rfl rfl rfl rfl rfl ?_)|(apply L6;refine O0 rfl rfl rfl rfl (fun _=>?_)))|(apply D7)|(apply AN0)|(apply G9)|(apply H7)|(apply N8)|(apply F6)|(apply A7)|(refine G5 rfl ?_;first|(apply I7)|(apply I5))|(apply D5)|(apply J7)|(apply J2)|(apply J8))
  all_goals (skip)
  rename_i bq
  refine M9 _ (by (exact .inr rfl)) rfl (fun _ hw=>hw) ?_
  exact⟨S',E++[.blk bq 225 [.int .i64 1,.int .i64 0,.int .i64 0,.string d],.blk b5 24 [.int .i64 0,.int .i64 0,.int .i64 0,.string ⟨#[]⟩,.bool false],.own 225 4 a1 1 c1 vs],rfl,by simp,hS2.mono (fun w hw=>hw.sub (List.sublist_append_left E _))⟩
theorem B25 (G:Ctx) (H:List Ent) (zp:ByteArray) (za zb:Int) (zi zg zt:ByteArray) (yp:ByteArray) (ya yb:Int) (yi yg yt:ByteArray) (wb:Nat) (S N P K E:List Value) [hS:Len S 33] (m:Int) (hm:S[11]? =some (.int .i64 m)) (d:ByteArray) (s':Scr)
    (cB:∀H',(∀w,Holds G H' w→Holds G H w)→SC Tryz.prog G 74 [.pointer (some ⟨wb,0,none⟩),.string d] (.blk wb 135 (wkD zp za zb zi zg zt S N P K E)::H') fun v H''=>∃S' F,v= .int .i64 0∧H''= .blk wb 135 (wkD yp ya yb yi yg yt S' N P K E)::(F++H')∧ScS G F s' S'):
    SC Tryz.prog G 44 [.pointer (some ⟨wb,0,none⟩),.agg (evC 1 d 0 0).toArray] (.blk wb 135 (wkD zp za zb zi zg zt S N P K E)::H) fun v H'=>∃S' F,v= .int .i64 0∧H'= .blk wb 135 (wkD yp ya yb yi yg yt S' N P K E)::(F++H)∧ScS G F s' S':=by
  have hv:(wkD zp za zb zi zg zt S N P K E)[23]? =some (.int .i64 m):=by
    refine AO4 (Nat.le_of_ble_eq_true rfl) ?_
    exact hm
  generalize wkD zp za zb zi zg zt S N P K E=cs at *
  refine J3 Tryz.func44 rfl rfl rfl rfl rfl ?_
  repeat' (first|(apply F3;first|(apply C8;refine A8 ?_)|(apply C9;refine D8 rfl rfl ?_)|(apply E5;refine F5 rfl rfl rfl ?_;refine F7 rfl ?_)|(apply F4;first|(refine F8 rfl rfl ?_;refine G6 rfl ?_)|(refine F8 rfl rfl ?_;refine G6 hv ?_))|(apply D6;refine D9 rfl rfl ?_)|(apply G7;first|refine G8 (E8 rfl rfl) rfl ?_ |refine G8 (w9 rfl rfl) rfl ?_)|(apply K8;refine M8 (H8 rfl rfl) rfl ?_)|(apply H6;refine c_call rfl rfl rfl (AL4 (tb:=wb) (cB _ I8)) rfl rfl ?_;rintro _ _ ⟨S',F,rfl,rfl,hS2⟩)|(apply K9;refine O5 rfl rfl rfl rfl rfl rfl (fun _=>?_)))|(apply D7)|(apply H7)|(apply F6)|(apply A7)|(refine G5 rfl ?_;apply I7)|(apply D5)|(apply J4)|(apply U1))
  all_goals (skip)
  rename_i b3
  refine M9 _ (by (exact .inr rfl)) rfl (fun _ hw=>hw) ?_
  exact⟨S',F++[.blk b3 76 (evC 1 d 0 0)],rfl,by simp,hS2.mono (fun w hw=>hw.sub (List.sublist_append_left F _))⟩
theorem Ah9 {zp:ByteArray} {za zb:Int} {zi zg zt:ByteArray} (S N P K:List Value) (buf sent:ByteArray) (ed:Bool):wkD zp za zb zi zg zt S N P K (cliX buf ed)++[.string sent]=wkD zp za zb zi zg zt S N P K (cliW buf ed sent):=by
  unfold wkD big
  simp only[List.append_assoc]
  rfl
theorem Bo4 {zp:ByteArray} {za zb:Int} {zi zg zt:ByteArray} (S N P K:List Value) (buf sent:ByteArray) (ed:Bool) (h:(wkD zp za zb zi zg zt S N P K (cliX buf ed)).length=613):take? ((wkD zp za zb zi zg zt S N P K (cliW buf ed sent)).drop 0) 613=some (wkD zp za zb zi zg zt S N P K (cliX buf ed)):=by
  refine AK2 h ?_
  rw[←Ah9,List.drop_zero,←h,List.take_left]
theorem Br6 (G:Ctx) (H:List Ent) (zp:ByteArray) (za zb:Int) (zi zg zt:ByteArray) (yp:ByteArray) (ya yb:Int) (yi yg yt:ByteArray) (hzp:zp.size≤1000000) (hzu:chkU (nums zp)=0) (hzq:okP (za,zb,zi,zg,zt)) (hzi:zi.size≤1000000) (hzg:zg.size≤1000000) (M:Int) (hM:∀H w,Holds G H w→w.cell? ⟨2,0,none⟩=some (.int .i64 M)) (s s2:Scr) (f:Fre s) (S P N N2 K:List Value) [hN:Len N 520] [hN2:Len N2 520] [hK:Len K 38] (h:CliS G H s S P) (buf buf2:ByteArray) (ed ed2:Bool) (sent2:ByteArray) (hb:buf.size<1024) (hN1:N.all (·.oneCell')=true) (hN21:N2.all (·.oneCell')=true) (hK1:K.all (·.oneCell')=true)
    (cN:∀H':List Ent,SV Tryz.prog G 71 [.agg N.toArray] H' (.int .i64 0)) (cK:∀H':List Ent,SV Tryz.prog G 72 [.agg K.toArray] H' (.int .i64 0)) (ev:List Value) (hev:ev.length=16) (hev1:ev.all (·.oneCell')=true)
    (cD:∀(H':List Ent) (wb:Nat) (S' P':List Value),CliS G H' s S' P'→SC Tryz.prog G 44 [.pointer (some ⟨wb,0,none⟩),.agg ev.toArray] (.blk wb 135 (wkD zp za zb zi zg zt S' N P' K (cliW buf ed ⟨#[]⟩))::H') fun v H''=>∃S2 F,v= .int .i64 0∧H''= .blk wb 135 (wkD yp ya yb yi yg yt S2 N2 P' K (cliW buf2 ed2 sent2))::(F++H')∧(ScS G F s2 S2∨(S2=S'∧s2=s))):
    SC Tryz.prog G 18 [.agg (wkD zp za zb zi zg zt S N P K (cliX buf ed)).toArray,.agg ev.toArray] H fun v H'=>∃S2 P2 E,v= .tuple #[.agg (wkD yp ya yb yi yg yt S2 N2 P2 K (cliX buf2 ed2)).toArray,.string sent2,.int .i64 0]∧H'=E++H∧CliS G E s2 S2 P2:=by
  have cC:=fun (H':List Ent) (hh:∀w,Holds G H' w→Holds G H w)=>A43 G H' zp za zb zi zg zt hzp hzu hzq hzi hzg s f S P N K (h.mono hh) buf ed hb M hM cN cK
  have cL:=fun (H':List Ent) (hh:∀w,Holds G H' w→Holds G H w)=>A53 G H' zp za zb zi zg zt s f S P N K (h.mono hh) buf ed hN1 hK1
  have hS:Len S 33:=⟨h.1.len⟩
  obtain⟨na,nc,va,vc,hP,-⟩:=h.2
  have hlen:=AK7 (zp:=zp) (za:=za) (zb:=zb) (zi:=zi) (zg:=zg) (zt:=zt) (S:=S) (N:=N) (K:=K) (P:=P) (E:=cliX buf ed) (k:=613) (p:=3) (by rw[hP];rfl) rfl rfl
  have hlb:Nat.beq (wkD zp za zb zi zg zt S N P K (cliX buf ed)).length 613=true:=by rw[hlen];rfl
  have hvb:Nat.beq ev.length 16=true:=by rw[hev];rfl
  clear hP hM cN cK
  generalize hC:wkD zp za zb zi zg zt S N P K (cliX buf ed)=C at *
  refine J3 Tryz.func18 rfl rfl rfl rfl rfl ?_
  repeat' (first|(apply F3;first|(apply C8;refine A8 ?_)|(apply C9;refine D8 rfl rfl ?_)|(apply E5;refine F5 rfl rfl rfl ?_;refine F7 rfl ?_)|(apply F4;refine F8 rfl rfl ?_;refine K5 hlb ?_)|(apply D6;refine D9 rfl rfl ?_)|(apply H6;first|refine F9 rfl rfl rfl (cC _ I8) rfl rfl ?_ |(refine c_call rfl rfl rfl (cL _ I8) rfl rfl ?_;rintro _ _ ⟨S',P',E,rfl,rfl,hE⟩))|(apply K9;refine O5 rfl rfl rfl rfl rfl rfl (fun _=>?_))|(apply L6;refine O0 rfl rfl rfl rfl (fun _=>?_)))|(apply D7)|(apply G9)|(apply A7)|(refine G5 rfl ?_;apply I5)|(apply D5))
  all_goals (skip)
  rename_i b2 b3 b4
  have hlP:P'.length=3:=by obtain⟨_,_,_,_,h,-⟩:=hE.2;rw[h];rfl
  haveI hS':Len S' 33:=⟨hE.1.len⟩
  have hl1:=AK7 (zp:=zp) (za:=za) (zb:=zb) (zi:=zi) (zg:=zg) (zt:=zt) (S:=S') (N:=N) (K:=K) (P:=P') (E:=cliX buf ed) (k:=613) hlP rfl rfl
  have hB:=A25 _ hl1
  rw[show Value.string ByteArray.empty=Value.string (⟨#[]⟩:ByteArray) from rfl,Ah9] at hB
  have hlP1:P'.all (·.oneCell')=true:=by obtain⟨_,_,_,_,h,-⟩:=hE.2;rw[h];rfl
  clear cC cL
  repeat' (first|(apply F3;first|(apply C8;refine A8 ?_)|(apply C9;refine D8 rfl rfl ?_)|(apply E5;refine F5 rfl rfl rfl ?_;refine F7 rfl ?_)|(apply F4;refine F8 rfl rfl ?_;refine K5 hvb ?_)|(apply D6;refine D9 rfl rfl ?_)|(apply P5;refine R7 (O6 (h:=BE2) rfl rfl hB) rfl ?_)|(apply H6;refine c_call rfl rfl rfl (cD _ _ S' P' (hE.mono (fun w hw=>hw.sub (List.sublist_append_left E _)))) rfl rfl ?_;rintro _ _ ⟨S2,F,rfl,rfl,hF⟩)|(apply K9;refine O5 rfl rfl rfl rfl rfl rfl (fun _=>?_)))|(apply D7)|(apply G9)|((fail_if_success (refine K3 (id:=8) ?_));apply A7)|(refine G5 rfl ?_;apply I5)|(apply D5))
  all_goals (skip)
  rename_i wb
  have hS2:Len S2 33:=by
    rcases hF with hF|⟨rfl,-⟩
    · exact⟨hF.len⟩
    · exact hS'
  have hS21:S2.all (·.oneCell')=true:=by
    rcases hF with hF|⟨rfl,-⟩
    · exact hF.one
    · exact hE.1.one
  have hl2:=AK7 (zp:=yp) (za:=ya) (zb:=yb) (zi:=yi) (zg:=yg) (zt:=yt) (S:=S2) (N:=N2) (K:=K) (P:=P') (E:=cliX buf2 ed2) (k:=613) hlP rfl rfl
  have hl3:=AK7 (zp:=yp) (za:=ya) (zb:=yb) (zi:=yi) (zg:=yg) (zt:=yt) (S:=S2) (N:=N2) (K:=K) (P:=P') (E:=cliW buf2 ed2 sent2) (k:=614) hlP rfl rfl
  have hT:=Bo4 S2 N2 P' K buf2 sent2 ed2 hl2
  have h613:(wkD yp ya yb yi yg yt S2 N2 P' K (cliW buf2 ed2 sent2))[613]? =some (.string sent2):=by
    rw[←Ah9,List.getElem?_append_right (by rw[hl2];exact Nat.le_refl _),hl2]
    rfl
  have hone2:(wkD yp ya yb yi yg yt S2 N2 P' K (cliX buf2 ed2)).all (·.oneCell')=true:=j3 rfl hS21 (j3 rfl hN21 (j3 hlP1 hK1 rfl))
  generalize wkD yp ya yb yi yg yt S2 N2 P' K (cliW buf2 ed2 sent2)=W at *
  have hz:=AE5
  have hgo:∀w,Holds G ((F++E)++H) w→True:=fun _ _=>trivial
  have hC2:CliS G (F++E) s2 S2 P':=by
    refine⟨?_,?_⟩
    · rcases hF with hF|⟨rfl,rfl⟩
      · exact hF.mono (fun w hw=>hw.sub (List.sublist_append_left F E))
      · exact hE.1.mono (fun w hw=>hw.sub (List.sublist_append_right F E))
    · exact(hE.mono (fun w hw=>hw.sub (List.sublist_append_right F E))).2
  generalize hC2e:wkD yp ya yb yi yg yt S2 N2 P' K (cliX buf2 ed2)=C2 at *
  repeat' (first|(apply F3;first|(apply C8;refine A8 ?_)|(apply H9;refine r9 rfl rfl rfl rfl hone2 hl2 hz rfl ?_))|(apply U4;refine R5 (k:=0) I8 ?_)|(apply V6;first|(refine O9 rfl ?_)|(refine P8 rfl rfl rfl rfl (by kernel_rfl) (by decide+kernel) (by decide+kernel) ?_;first|(apply U5;refine I4 (V4 rfl rfl) ?_)|(apply U9;refine U6 rfl ?_;first|refine L8 hT rfl ?_ |refine G6 h613 ?_)|(apply Z0;refine I4 (X7 rfl rfl) ?_)|(apply Q0;refine I4 (E8 rfl rfl) ?_)|(apply Y7;refine I4 (H8 rfl rfl) ?_))|(refine P9 rfl ?_)|(refine R4 (by decide+kernel) ?_)|(refine S9 (by kernel_rfl) ?_))|(apply X4;first|(refine T9 rfl)|(refine U7 (by decide+kernel) ?_)|(refine U0 rfl ?_ ?_))|(apply H7)|(apply D5)|(refine K3 (id:=8) ?_;refine AA9 (b:=b4) ?_))
  all_goals
    refine d9 ((F++E)++H) (by (exact .inr rfl)) rfl hl2 rfl ?_ ⟨S2,P',F++E,by rw[hC2e];rfl,rfl,hC2⟩
  all_goals exact fun w hw=>hw.sub (by
    rw[List.append_assoc]
    exact List.Sublist.cons _ (List.Sublist.cons _ ((List.Sublist.refl F).append ((List.Sublist.refl E).append (List.Sublist.cons _ (List.Sublist.cons _ (List.Sublist.refl H)))))))
end
end Go.Proofs.YtmmnimagbnlcmaaGreatDoor
