/- Texts of this claim, merged: Ter11 Ter12 Ter13 Drw14. -/
import Derived.Test.YtmmnimagbnlcmaaGreatDoorTy15
import Derived.Test.YtmmnimagbnlcmaaGreatDoorRows
import Derived.WalkKit
import Derived.WalkSpells
import Derived.WalkLawsBesides
import Derived.Handy
import Derived.Lib.Hide
import Derived.Laws.BitsAllLaws
import Derived.Deep.MidRow
import Derived.Deep.WholeRow
import Derived.BigQuiet
import Derived.Deep.QuietTactic
import Derived.Laws.CopyOwn
import Derived.StillTailTactics
import Derived.RegionTactic
import Derived.ChangeAlike
import Derived.Laws.AppendOwnNone
import Derived.Laws.MakeOwn
import Derived.Laws.IdiomStrings
import Derived.OrdersHeld
import Derived.Lib.SliceRun
import Derived.ChangeKeysEq
import Derived.Laws.CopyRow
import Derived.Lib.AppendStr
import Derived.ArgAppend
import Derived.Laws.RangeAny
import Derived.Maps.RangeRun
import Derived.Lib.Replace
import Derived.Lib.Join
import Derived.Lib.IndexLaws
import Derived.Lib.IndexMore
import Derived.Lib.SplitLaws
import Derived.Shelf.Strings.Builder1
import Derived.Shelf.Strings.Builder2
import Derived.Shelf.Strings.OnBuilder
import Derived.Shelf.Strings.Trim
import Derived.Shelf.Small.Utf8
import Derived.Shelf.Small.Strs
import Derived.Shelf.Strings.BuilderF
import Derived.Shelf.Strconv.Itoa0
import Derived.Shelf.Strconv.Itoa1
import Derived.Shelf.LaysM
import Derived.Shelf.Strconv.Itoa2
import Derived.Shelf.Strconv.Itoa3
import Derived.Shelf.Strings.Search1
import Derived.Shelf.Strings.Search2
import Derived.Shelf.Strings.Search3
import Derived.Shelf.Strings.Count
import Derived.Shelf.Strings.Shaped
import Derived.Shelf.Strings.LastIndex
import Derived.Shelf.Strings.Prefix
import Derived.Shelf.Strings.Split
import Derived.Shelf.Strings.Replace
import Derived.Shelf.Strings.SplitShaped
import Derived.Shelf.Strings.Runes
import Derived.Shelf.Strings.AsciiSet
import Derived.Shelf.Bits.Mul64
import Derived.Shelf.Strings.Repeat
import Derived.Shelf.Unicode.DecodeSlow
import Derived.Shelf.Unicode.DecodeAny
import Derived.Shelf.Unicode.ValidAny
import Derived.Test.YtmmnimagbnlcmaaGreatDoorProg
import Derived.Lib.Bytealg
import Derived.Lib.ItoaNum
import Derived.Lib.AppendIntMem
import Derived.Lib.ItoaLen
set_option maxRecDepth 100000
set_option maxHeartbeats 8000000
open Go Go.RowKit Go.Fw Go.Sx
namespace Go.Proofs.YtmmnimagbnlcmaaGreatDoor
theorem Av5 (s:Scr):∀n,(allA s n).w=s.w∧(allA s n).h=s.h
 | 0=>⟨rfl,rfl⟩
 | n+1=>by rw[Ag5];exact Av5 s n
section
attribute [local irreducible] SW SL SQ AtQ SV SC BB LD PK Yields SO SOT SOA SY SP SPT SPA
variable (G:Ctx) (tb:Nat) (t:ByteArray)
theorem AQ7 (K H:List Ent) (s:Scr) (h:OkS s) (hq:TmQ G tb t s K H) (m b:Int) (on':Bool) (hm:(m=1∧b=16)∨(m=7∧b=4)∨(m=25∧b=8)∨(m=1000∧b=512)∨(m=1006∧b=1024)∨(m=2004∧b=64)):SC Tryz.prog G 171 [.pointer (some ⟨tb,0,none⟩),.int .i64 m,.bool on'] H fun v H'=>v=resV []∧TmQ G tb t (setA s b on') K H':=by
 have cS:=hq.set h b (by omega) on'
 rcases hm with ⟨rfl,rfl⟩|⟨rfl,rfl⟩|⟨rfl,rfl⟩|⟨rfl,rfl⟩|⟨rfl,rfl⟩|⟨rfl,rfl⟩
 all_goals
  refine U4 Tryz.func171 O O O O O ?_
  repeat' (first|(apply E8;first|(apply A8;refine A9 ?_)|(apply C8;refine D7 O O ?_)|(apply E5;refine F7 O O O ?_;refine F9 O ?_)|(apply D5;refine D9 O O ?_)|(apply H5;refine c_call O O O cS O O ?_;rintro _ _ ⟨rfl,hq1⟩))|(apply D6)|(apply F3)|(apply A7)|(refine G5 O ?_;first|(apply I1)|(apply H7))|(apply C9)|(apply H9))
  exact I8 _ (by (exact .inl O)) O (fun _ hw=>hw) ⟨O,hq1⟩
theorem B38 (K H:List Ent) (s:Scr) (h:OkS s) (hq:TmQ G tb t s K H) (on':Bool):SC Tryz.prog G 171 [.pointer (some ⟨tb,0,none⟩),.int .i64 6,.bool on'] H fun v H'=>v=resV []∧TmQ G tb t (moveA (setA s 2 on') 0 0) K H':=by
 have cS:=hq.set h 2 (by decide) on'
 have h2:=h.set (m:=2) (by decide) on'
 generalize setA s 2 on'=s2 at *
 refine U4 Tryz.func171 O O O O O ?_
 repeat' (first|(apply E8;first|(apply A8;refine A9 ?_)|(apply C8;refine D7 O O ?_)|(apply E5;refine F7 O O O ?_;refine F9 O ?_)|(apply D5;refine D9 O O ?_)|(apply H5;first|(refine c_call O O O cS O O ?_;rintro _ _ ⟨rfl,hq1⟩)|(refine c_call O O O (hq1.mv h2 0 0 (by decide)) O O ?_;rintro _ _ ⟨rfl,hq2⟩)))|(apply D6)|(apply F3)|(apply A7)|(refine G5 O ?_;first|(apply I1)|(apply H7))|(apply C9)|(apply H9))
 exact I8 _ (by (exact .inl O)) O (fun _ hw=>hw) ⟨O,hq2⟩
theorem By9 (H:List Ent) (p:Value) (m:Int) (on':Bool) (hm:m≠1∧m≠6∧m≠7∧m≠25∧m≠1000∧m≠1006∧m≠2004∧m≠1049):SC Tryz.prog G 171 [p,.int .i64 m,.bool on'] H fun v H'=>v=resV []∧H'=H:=by
 obtain⟨c1,c2,c3,c4,c5,c6,c7,c8⟩:=hm
 refine U4 Tryz.func171 O O O O O ?_
 repeat' (first|(apply E8;first|(apply A8;refine A9 ?_)|(apply C8;refine D7 O O ?_)|(apply E5;refine F7 O O O ?_;refine F9 O ?_)|(apply D5;refine D9 O O ?_))|(apply D6)|(apply G8)|(apply F3)|(apply A7)|(refine G5 O ?_;apply E9<;>intro hq<;>(try (exfalso;omega)))|(apply C9)|(apply H9))
 exact I8 _ (by (exact .inl O)) O (fun _ hw=>hw) ⟨O,O⟩
theorem Bs9 (H:List Ent) (s:Scr) (h:OkS s) (ga:Option Addr) (gn gc:Nat) (oa:Option Addr) (on oc:Nat) (pa:Option Addr) (pn pc:Nat) (on':Bool) (he:on'=onA s 256):SC Tryz.prog G 171 [.pointer (some ⟨tb,0,none⟩),.int .i64 1049,.bool on'] (.blk tb 158 (trmC s ga gn gc oa on oc pa pn pc t)::H) fun v H'=>v=resV []∧H'= .blk tb 158 (trmC s ga gn gc oa on oc pa pn pc t)::H:=by
 have cI:=fun (H:List Ent) (cs:List Value) (b:Bool) (hb:onA s 256=b)=>AJ1 G H tb 256 (by decide) cs s.modes h.modes b hb
 unfold trmC
 cases hb:onA s 256
 all_goals
  rw[hb] at he;subst he
  refine U4 Tryz.func171 O O O O O ?_
  repeat' (first|(apply E8;first|(apply A8;refine A9 ?_)|(apply C8;refine D7 O O ?_)|(apply E5;refine F7 O O O ?_;refine F9 O ?_)|(apply D5;refine D9 O O ?_)|(apply H5;refine H6 O O O (cI _ _ _ hb inferInstance O) O O ?_))|(apply D6)|(apply I4)|(apply F3)|(apply A7)|(refine G5 O ?_;first|(apply I1)|(apply H7))|(apply C9)|(apply J8)|(apply U5))
  exact I8 _ (by (exact .inr O)) O (fun _ hw=>hw) ⟨O,O⟩
theorem At9 {s:Scr} {K:List Ent} {gb gn gc ob on oc:Nat} {P:Ent} {pa:Option Addr} {pn pc:Nat} {X:List (Rx Qd)} {E:List Ent} (hi:TmI G s gn gc on oc P pa pn pc X E):TmQ G tb t (swapA s) K (.blk tb 158 (trmC s (some ⟨ob,0,none⟩) on oc (some ⟨gb,0,none⟩) gn gc pa pn pc t):: .own 97 4 (some ⟨ob,0,none⟩) on oc (qds s.D):: .own 97 4 (some ⟨gb,0,none⟩) gn gc (qds s.C)::P::(E++K)):=
 ⟨ob,on,oc,gb,gn,gc,P,pa,pn,pc,X,E,rfl,hi.p,hi.r,hi.x,hi.on',hi.oc',hi.gn',hi.gc',hi.pn'⟩
theorem Bo2 (K H:List Ent) (s:Scr) (h:OkS s) (hq:TmQ G tb t s K H) (hb:onA s 256=true):SC Tryz.prog G 171 [.pointer (some ⟨tb,0,none⟩),.int .i64 1049,.bool false] H fun v H'=>v=resV []∧TmQ G tb t (setA (restA (swapA s)) 256 false) K H':=by
 have cI:=fun (H:List Ent) (cs:List Value) (b:Bool) (hb:onA s 256=b)=>AJ1 G H tb 256 (by decide) cs s.modes h.modes b hb
 obtain⟨gb,gn,gc,ob,on,oc,P,pa,pn,pc,X,E,rfl,hi⟩:=hq
 have hs:=At9 G tb t (K:=K) (gb:=gb) (ob:=ob) hi
 have h2:=h.swap
 have h3:=h2.rest
 have cR:=hs.rest h2
 generalize restA (swapA s)=s3 at *
 unfold trmC at *
 refine U4 Tryz.func171 O O O O O ?_
 repeat' (first|(apply E8;first|(apply A8;refine A9 ?_)|(apply C8;refine D7 O O ?_)|(apply E5;refine F7 O O O ?_;refine F9 O ?_)|(apply D5;refine D9 O O ?_)|(apply H5;refine H6 O O O (cI _ _ _ hb inferInstance O) O O ?_))|(apply D6)|(apply G8)|(apply F3)|((fail_if_success (refine J5 (id:=20) ?_));apply A7)|(refine G5 O ?_;first|(apply I1)|(apply H7))|(apply C9))
 refine AE0 15 _ (.own 97 4 (some ⟨gb,0,none⟩) gn gc (qds s.C):: .own 97 4 (some ⟨ob,0,none⟩) on oc (qds s.D)::P::(E++K)) (fun _ hw=>hw) O ?_
 repeat' (first|(apply E8;first|(apply A8;refine A9 ?_)|(apply C8;refine D7 O O ?_)|(apply H8;refine AH2 O O O O O O O O O ?_))|(apply Q0;refine N8 (k:=0) J3 ?_)|(apply U3;first|(refine L8 O ?_)|(refine O4 O O O O (by kernel_rfl) (by decide+kernel) (by decide+kernel) ?_;first|(apply M3;refine G9 (D8 O O) ?_)|(apply R5;refine G9 (F6 O O) ?_))|(refine O5 O ?_)|(refine N9 (by decide+kernel) ?_)|(refine Q6 (by kernel_rfl) ?_))|(apply V3;first|(refine Q5 O)|(refine U1 (by decide+kernel) ?_)|(refine Q3 O ?_ ?_))|(apply AL2;first|(refine AC5 O O O O (by kernel_rfl) (by decide+kernel) (by decide+kernel) (by decide+kernel) ?_;first|(apply O1;refine G9 (P9 O O) ?_)|(apply R9;refine R6 O ?_;refine O9 O O ?_)|(apply M3;refine G9 (D8 O O) ?_)|(apply R5;refine G9 (F6 O O) ?_))|(refine AR7 O O O O (by kernel_rfl) (by decide+kernel) (by decide+kernel) O J3 ?_;apply O1;refine G9 (P9 O O) ?_)|(refine AC9 O ?_)|(refine AE2 (by kernel_rfl) ?_))|(apply AL3;first|(refine AE1 O)|(refine AH6 (by decide+kernel) ?_)|(refine AH3 O O ?_ ?_))|(apply D6)|((fail_if_success (refine J5 (id:=20) ?_));apply A7)|(refine G5 O ?_;apply H7)|(apply C9))
 refine AO9 (H':= .blk tb 158 _:: .own 97 4 (some ⟨ob,0,none⟩) on oc (qds s.D):: .own 97 4 (some ⟨gb,0,none⟩) gn gc (qds s.C)::P::(E++K)) J3 ?_
 repeat' (first|(apply E8;first|(apply A8;refine A9 ?_)|(apply C8;refine D7 O O ?_)|(apply H5;first|(refine c_call O O O cR O O ?_;rintro _ _ ⟨rfl,hq1⟩)|(refine c_call O O O (hq1.set h3 256 (by decide) false) O O ?_;rintro _ _ ⟨rfl,hq2⟩)))|(apply A7)|(apply C9)|(apply H9))
 exact I8 _ (by (exact .inl O)) O (fun _ hw=>hw) ⟨O,hq2⟩
theorem Bs3 (K H:List Ent) (s:Scr) (h:OkS s) (hq:TmQ G tb t s K H) (hb:onA s 256=false):SC Tryz.prog G 171 [.pointer (some ⟨tb,0,none⟩),.int .i64 1049,.bool true] H fun v H'=>v=resV []∧TmQ G tb t (setA (allA (swapA (saveA s)) s.h) 256 true) K H':=by
 have cI:=fun (H:List Ent) (cs:List Value) (b:Bool) (hb:onA s 256=b)=>AJ1 G H tb 256 (by decide) cs s.modes h.modes b hb
 have cV:=hq.save h
 have hv:=h.save
 have hsw:(saveA s).h=s.h∧(saveA s).w=s.w:=⟨rfl,rfl⟩
 obtain⟨gb,gn,gc,ob,on,oc,P,pa,pn,pc,X,E,rfl,hi⟩:=hq
 unfold trmC at cV ⊢
 refine U4 Tryz.func171 O O O O O ?_
 repeat' (first|(apply E8;first|(apply A8;refine A9 ?_)|(apply C8;refine D7 O O ?_)|(apply E5;refine F7 O O O ?_;refine F9 O ?_)|(apply D5;refine D9 O O ?_)|(apply H5;first|refine H6 O O O (cI _ _ _ hb inferInstance O) O O ?_ |(refine c_call O O O cV O O ?_;rintro _ _ ⟨rfl,hq1⟩)))|(apply D6)|(apply G8)|(apply F3)|((fail_if_success (refine J5 (id:=20) ?_));apply A7)|(refine G5 O ?_;first|(apply I1)|(apply H7))|(apply C9))
 clear cV cI hi
 rw[←hsw.1]
 generalize saveA s=s1 at *
 clear hsw
 obtain⟨gb,gn,gc,ob,on,oc,P,pa,pn,pc,X,E,rfl,hi⟩:=hq1
 have hs:=At9 G tb t (K:=K) (gb:=gb) (ob:=ob) hi
 have h2:=hv.swap
 have hall:=h2.all
 have hsm:=Av5 (swapA s1)
 have hsc:=Ag5 (swapA s1)
 have hz:=hv.g.size
 have e1:(swapA s1).w=s1.w∧(swapA s1).h=s1.h:=⟨rfl,rfl⟩
 rw[e1.1,e1.2] at hsm
 rw[e1.2] at hall
 have ea:allA (swapA s1) 0=swapA s1:=rfl
 generalize hS2:swapA s1=s2 at *
 unfold trmC at hs ⊢
 refine AE0 15 _ (.own 97 4 (some ⟨gb,0,none⟩) gn gc (qds s1.C):: .own 97 4 (some ⟨ob,0,none⟩) on oc (qds s1.D)::P::(E++K)) (fun _ hw=>hw) O ?_
 repeat' (first|(apply E8;first|(apply A8;refine A9 ?_)|(apply C8;refine D7 O O ?_)|(apply F5;refine F8 O O ?_;refine F4 O ?_)|(apply G6;refine G7 (D8 O O) O ?_)|(apply I9;refine J7 (F6 O O) O ?_)|(apply H8;refine AH2 O O O O O O O O O ?_))|(apply Q0;refine N8 (k:=0) J3 ?_)|(apply U3;first|(refine L8 O ?_)|(refine O4 O O O O (by kernel_rfl) (by decide+kernel) (by decide+kernel) ?_;first|(apply M3;refine G9 (D8 O O) ?_)|(apply R5;refine G9 (F6 O O) ?_))|(refine O5 O ?_)|(refine N9 (by decide+kernel) ?_)|(refine Q6 (by kernel_rfl) ?_))|(apply V3;first|(refine Q5 O)|(refine U1 (by decide+kernel) ?_)|(refine Q3 O ?_ ?_))|(apply AL2;first|(refine AC5 O O O O (by kernel_rfl) (by decide+kernel) (by decide+kernel) (by decide+kernel) ?_;first|(apply O1;refine G9 (P9 O O) ?_)|(apply R9;refine R6 O ?_;refine O9 O O ?_)|(apply M3;refine G9 (D8 O O) ?_)|(apply R5;refine G9 (F6 O O) ?_))|(refine AR7 O O O O (by kernel_rfl) (by decide+kernel) (by decide+kernel) O J3 ?_;apply O1;refine G9 (P9 O O) ?_)|(refine AC9 O ?_)|(refine AE2 (by kernel_rfl) ?_))|(apply AL3;first|(refine AE1 O)|(refine AH6 (by decide+kernel) ?_)|(refine AH3 O O ?_ ?_))|(apply D6)|(apply F3)|((fail_if_success (refine J5 (id:=20) ?_));apply A7)|(refine G5 O ?_;apply I1)|(apply C9))
 refine R7 (α:=Nat×List Ent) (fun g=>[(0,.pointer (some ⟨tb,0,none⟩)),(2,.bool true),(78,.int .i64 s1.h),(79,.int .i64 g.1)]) (fun g=>g.2)
  (fun g=>g.1≤s1.h∧TmQ G tb t (allA s2 g.1) K g.2) (fun g=>s1.h-g.1) (0,_) ⟨Nat.zero_le _,hs⟩ Q7 J3 ?_
 clear hs hi
 rintro ⟨j,Hj⟩ ⟨hj,hqj⟩
 dsimp only at hj hqj ⊢
 by_cases hlt:(j:Int)<s1.h
 ·have hjo:=hall j hj
  have hjs:=hsm j
  have hjn:=hsc j
  clear hall hsm hsc
  generalize allA s2 j=sj at *
  have hqj0:=hqj
  obtain⟨gb,gn,gc,ob,on,oc,P,pa,pn,pc,X,E,rfl,hi⟩:=hqj
  have cF:=fillQ G tb t K _ sj hjo.1 hqj0 j 0 sj.w (by omega) (by omega)
  generalize fillA sj j 0 sj.w=sk at *
  unfold trmC at *
  repeat' (first|(apply E8;first|(apply A8;refine A9 ?_)|(apply C8;refine D7 O O ?_)|(apply E5;refine F7 O O O ?_;first|(apply K9;refine L6 ⟨by omega,by omega⟩ ?_)|refine F9 O ?_)|(apply F5;refine F8 O O ?_;refine F4 O ?_)|(apply D5;refine D9 O O ?_)|(apply G6;refine G7 (D8 O O) O ?_)|(apply I9;refine J7 (F6 O O) O ?_)|(apply H5;refine c_call O O O cF O O ?_;rintro _ _ ⟨rfl,hq3⟩))|(apply D6)|(apply G8)|(apply F3)|(apply A7)|(refine G5 O ?_;apply E9<;>intro hq<;>(try (exfalso;omega)))|(apply C9)|(apply H9))
  exact J6 (j+1,_) ⟨⟨by dsimp only;omega,by dsimp only;rw[hjn];exact hq3⟩,by dsimp only;omega⟩ Q7 (fun _ hw=>hw)
 ·obtain rfl:j=s1.h:=by omega
  have h3:=(hall s1.h (Nat.le_refl _)).1
  repeat' (first|(apply E8;first|(apply A8;refine A9 ?_)|(apply C8;refine D7 O O ?_)|(apply E5;refine F7 O O O ?_;refine F9 O ?_)|(apply H5;refine c_call O O O (hqj.set h3 256 (by decide) true) O O ?_;rintro _ _ ⟨rfl,hq4⟩))|(apply D6)|(apply O7)|(apply A7)|(refine G5 O ?_;apply E9<;>intro hq<;>(try (exfalso;omega)))|(apply C9)|(apply K3)|(apply H9)|(apply K4))
  exact I8 _ (by (exact .inl O)) O (fun _ hw=>hw) ⟨O,hq4⟩
theorem privQ (K H:List Ent) (s:Scr) (h:OkS s) (hq:TmQ G tb t s K H) (m:Int) (on':Bool):SC Tryz.prog G 171 [.pointer (some ⟨tb,0,none⟩),.int .i64 m,.bool on'] H fun v H'=>v=resV []∧TmQ G tb t (privA on' s m) K H':=by
 unfold privA
 by_cases g1:m=1
 ·rw[if_pos g1];exact AQ7 G tb t K H s h hq m 16 on' (by omega)
 rw[if_neg g1]
 by_cases g2:m=6
 ·rw[if_pos g2];subst g2;exact B38 G tb t K H s h hq on'
 rw[if_neg g2]
 by_cases g3:m=7
 ·rw[if_pos g3];exact AQ7 G tb t K H s h hq m 4 on' (by omega)
 rw[if_neg g3]
 by_cases g4:m=25
 ·rw[if_pos g4];exact AQ7 G tb t K H s h hq m 8 on' (by omega)
 rw[if_neg g4]
 by_cases g5:m=1000
 ·rw[if_pos g5];exact AQ7 G tb t K H s h hq m 512 on' (by omega)
 rw[if_neg g5]
 by_cases g6:m=1006
 ·rw[if_pos g6];exact AQ7 G tb t K H s h hq m 1024 on' (by omega)
 rw[if_neg g6]
 by_cases g7:m=2004
 ·rw[if_pos g7];exact AQ7 G tb t K H s h hq m 64 on' (by omega)
 rw[if_neg g7]
 by_cases g8:m=1049
 ·rw[if_pos g8];subst g8
  unfold otherOn
  by_cases he:on'=onA s 256
  ·rw[if_pos he]
   exact hq.blk O O O fun ga gn gc oa on oc pa pn pc H=>Bs9 G tb t H s h ga gn gc oa on oc pa pn pc on' he
  ·rw[if_neg he]
   cases on'
   ·rw[if_neg (by decide)]
    have hb:onA s 256=true:=by
     cases hb:onA s 256
     ·exact absurd hb.symm he
     ·rfl
    exact Bo2 G tb t K H s h hq hb
   ·rw[if_pos rfl]
    have hb:onA s 256=false:=by
     cases hb:onA s 256
     ·rfl
     ·exact absurd hb.symm he
    exact Bs3 G tb t K H s h hq hb
 rw[if_neg g8]
 exact AA7 (By9 G H _ m on' ⟨g1,g2,g3,g4,g5,g6,g7,g8⟩) fun v H' ⟨e1,e2⟩=>⟨e1,by rw[e2];exact hq⟩
end
theorem Bo5 {s x:Scr} {c n m:Int} (h:cursA s c n m=some x):c≠110∧c≠99:=⟨(fun e=>by subst e;cases h),(fun e=>by subst e;cases h)⟩
theorem BV6 {s x:Scr} {c n m:Int} (h:AN4 s c n m=some x):c≠110∧c≠99:=⟨(fun e=>by subst e;cases h),(fun e=>by subst e;cases h)⟩
theorem Ax4 {s:Scr} {c k:Int} (h:c≠110∧c≠99):AS1 s c k=e0:=by
 unfold AS1
 rw[if_neg h.1,if_neg fun e=>h.2 e.1]
section
attribute [local irreducible] SW SL SQ AtQ SV SC BB LD PK Yields SO SOT SOA SY SP SPT SPA
variable (G:Ctx) (tb:Nat) (t:ByteArray)
theorem CE2 (hT:∀H,AB2 G H) (K H:List Ent) (s:Scr) (h:OkS s) (hq:TmQ G tb t s K H) (ht:t.size≤1000000) (L:List Int) (hL:∀x∈L,-1≤x∧x≤16383) (hll:L.length≤1000) (kk c:Int) (i x:ByteArray) (aa:Option Addr) (ac:Nat) [h1:RdC G K aa (ints L)]:SC Tryz.prog G 110 [.pointer (some ⟨tb,0,none⟩),acV kk c 0 i aa L.length ac x] H fun v H'=>v=resV []∧TmQ G tb (t++seqT s c 0 L) (seqA s c 0 L) K H':=by
 have hp:=BG7 (L:=L) (i:=0) hL
 have hg:=BF8 (L:=L) (i:=0) (d:=0) hL (by decide)
 haveI hr:RdC G H aa (ints L):=⟨fun w hw=>h1.here w (hq.rd w hw)⟩
 have cP:=fun (H:List Ent) [RdC G H aa (ints L)]=>AZ4 G H L aa ac 0
 have cG:=fun (H:List Ent) [RdC G H aa (ints L)]=>AY9 G H L aa ac 0 0
 have cC:=fun (H' K':List Ent) (hq':TmQ G tb t s K' H') (h1':RdC G K' aa (ints L))=>cursQ G tb t K' H' s h hq' L hL kk c 0 (posA L 0) i x aa ac hp
 have cE:=fun (H' K':List Ent) (hq':TmQ G tb t s K' H')=>B42 G tb t K' H' s h hq' c (posA L 0) (getA L 0 0) hp hg.1
 have cO:=fun (H' K':List Ent) (hq':TmQ G tb t s K' H') (h1':RdC G K' aa (ints L))=>CB3 G tb t hT K' H' s h hq' ht L hL hll kk 0 (posA L 0) (getA L 0 0) c hp i x aa ac
 have hs:seqA s c 0 L=(match cursA s c (posA L 0) (posA L 1) with|some x=>x|none=>match AN4 s c (posA L 0) (getA L 0 0) with|some x=>x|none=>AV8 s c (posA L 0) (getA L 0 0) L):=if_pos rfl
 have hst:seqT s c 0 L=AS1 s c (getA L 0 0):=if_pos rfl
 rw[hs,hst]
 clear hs hst
 have hcn:=fun {x:Scr} (h:cursA s c (posA L 0) (posA L 1)=some x)=>Ax4 (s:=s) (k:=getA L 0 0) (Bo5 h)
 have hen:=fun {x:Scr} (h:AN4 s c (posA L 0) (getA L 0 0)=some x)=>Ax4 (s:=s) (k:=getA L 0 0) (BV6 h)
 generalize AS1 s c (getA L 0 0)=oT at *
 generalize AV8 s c (posA L 0) (getA L 0 0) L=oA at *
 generalize cursA s c (posA L 0) (posA L 1)=cA at *
 generalize AN4 s c (posA L 0) (getA L 0 0)=eA at *
 generalize posA L 0=n at *
 generalize getA L 0 0=k at *
 generalize L.length=ln at *
 unfold acV at *
 refine I7 Tryz.func110 O O O O O ?_
 repeat' (first|(apply E8;first|(apply A8;refine A9 ?_)|(apply K6;refine L9 O O O O O O (fun _=>?_)))|(apply u7;first|(apply Y3;refine Y2 ?_)|(apply V8;refine Y4 O O ?_;refine F4 O ?_)|(apply Y1;refine Z7 O O ?_)|(apply V9;refine X9 (D8 O O) O ?_)|(apply AE3;first|refine V7 O O O (cP _) O O ?_ |refine V7 O O O (cG _) O O ?_))|(apply D6)|(apply F3)|((fail_if_success (refine J5 (id:=2) ?_));apply A7)|(apply C9)|((fail_if_success (refine J5 (id:=2) ?_));refine V6 (by kernel_rfl) ?_))
 all_goals
  rename_i b
  obtain⟨H2,hp2,hq2⟩:=hq.push (.blk b 160 [.int .i64 kk,.int .i64 c,.int .i64 0,.string i,.slice aa ln ac,.string x])
  refine Z5 H2 (fun _ hw=>hw.perm hp2) ?_
  haveI:=hq2.hasB AB1
  have cC:=cC _ _ hq2 inferInstance
  cases cA with
  | some y=>
    rw[hcn rfl,AG0]
    dsimp only[Option.isSome,Option.getD] at cC ⊢
    clear cE cO
    repeat' (first|(apply E8;first|(apply A8;refine A9 ?_)|(apply C8;refine D7 O O ?_)|(apply E5;refine F7 O O O ?_;refine F9 O ?_)|(apply F5;refine F8 O O ?_;first|refine F4 O ?_ |refine M5 O ?_)|(apply D5;refine D9 O O ?_)|(apply I6;refine J4 O O ?_;apply M6;refine M7 O ?_)|(apply G6;refine G7 (D8 O O) O ?_)|(apply X5;refine Z9 (Z8 O O O) O ?_)|(apply H5;refine c_call O O O cC O O ?_;rintro _ _ ⟨rfl,hq3⟩)|(apply I5;refine J9 O O O O ?_;apply H7))|(apply D6)|(apply G8)|(apply A7)|(refine G5 O ?_;first|(apply I1)|(apply H7))|(apply C9)|(apply H9))
    all_goals exact I8 _ (by first|exact .inl O|exact .inr O) O (fun _ hw=>hw) ⟨O,hq3.cut⟩
  | none=>
    dsimp only[Option.isSome,Option.getD] at cC ⊢
    cases eA with
    | some y=>
      rw[hen rfl,AG0]
      dsimp only[Option.isSome,Option.getD] at cE ⊢
      clear cO
      repeat' (first|(apply E8;first|(apply A8;refine A9 ?_)|(apply C8;refine D7 O O ?_)|(apply E5;refine F7 O O O ?_;refine F9 O ?_)|(apply F5;refine F8 O O ?_;first|refine F4 O ?_ |refine M5 O ?_)|(apply D5;refine D9 O O ?_)|(apply I6;refine J4 O O ?_;apply P7;refine P6 O ?_)|(apply G6;refine G7 (D8 O O) O ?_)|(apply X5;refine Z9 (Z8 O O O) O ?_)|(apply H5;first|(refine c_call O O O cC O O ?_;rintro _ _ ⟨rfl,hq3⟩;haveI:=hq3.hasB AB1)|(refine c_call O O O (cE _ _ hq3) O O ?_;rintro _ _ ⟨rfl,hq4⟩))|(apply I5;refine J9 O O O O ?_;apply I1))|(apply D6)|(apply G8)|(apply A7)|(refine G5 O ?_;first|(apply I1)|(apply H7))|(apply C9)|(apply H9))
      all_goals exact I8 _ (by first|exact .inl O|exact .inr O) O (fun _ hw=>hw) ⟨O,hq4.cut⟩
    | none=>
      dsimp only[Option.isSome,Option.getD] at cE ⊢
      repeat' (first|(apply E8;first|(apply A8;refine A9 ?_)|(apply C8;refine D7 O O ?_)|(apply E5;refine F7 O O O ?_;refine F9 O ?_)|(apply F5;refine F8 O O ?_;first|refine F4 O ?_ |refine M5 O ?_)|(apply D5;refine D9 O O ?_)|(apply I6;refine J4 O O ?_;apply P7;refine P6 O ?_)|(apply G6;refine G7 (D8 O O) O ?_)|(apply X5;refine Z9 (Z8 O O O) O ?_)|(apply H5;first|(refine c_call O O O cC O O ?_;rintro _ _ ⟨rfl,hq3⟩;haveI:=hq3.hasB AB1)|(refine c_call O O O (cE _ _ hq3) O O ?_;rintro _ _ ⟨rfl,hq4⟩;haveI:=hq4.hasB AB1)|(refine c_call O O O (cO _ _ hq4 inferInstance) O O ?_;rintro _ _ ⟨rfl,hq5⟩))|(apply I5;refine J9 O O O O ?_;apply I1))|(apply D6)|(apply A7)|(refine G5 O ?_;apply I1)|(apply C9)|(apply H9))
      all_goals exact I8 _ (by (exact .inl O)) O (fun _ hw=>hw) ⟨O,hq5.cut⟩
theorem B93 (hT:∀H,AB2 G H) (K H:List Ent) (s:Scr) (hq:TmQ G tb t s K H) (L:List Int) (kk c m:Int) (i x:ByteArray) (aa:Option Addr) (ac:Nat) [h1:RdC G K aa (ints L)] (h0:m≠0) (h2:¬(m=62∧c=99∧getA L 0 0=0)) (h3:¬(m=63∧(c=104∨c=108))):SC Tryz.prog G 110 [.pointer (some ⟨tb,0,none⟩),acV kk c m i aa L.length ac x] H fun v H'=>v=resV []∧TmQ G tb t s K H':=by
 haveI hr:RdC G H aa (ints L):=⟨fun w hw=>h1.here w (hq.rd w hw)⟩
 have cP:=fun (H:List Ent) [RdC G H aa (ints L)]=>AZ4 G H L aa ac 0
 have cG:=fun (H:List Ent) [RdC G H aa (ints L)]=>AY9 G H L aa ac 0 0
 generalize posA L 0=n at *
 generalize getA L 0 0=k at *
 generalize L.length=ln at *
 unfold acV at *
 have fin:=hq
 by_cases g1:m=62
 ·have h3':¬m=63:=by omega
  subst g1
  by_cases g2:c=99
  ·have g3:¬k=0:=fun e=>h2 ⟨rfl,g2,e⟩
   subst g2
   refine I7 Tryz.func110 O O O O O ?_
   repeat' (first|(apply E8;first|(apply A8;refine A9 ?_)|(apply C8;refine D7 O O ?_)|(apply E5;refine F7 O O O ?_;refine F9 O ?_)|(apply F5;refine F8 O O ?_;refine F4 O ?_)|(apply D5;refine D9 O O ?_)|(apply I6;refine J4 O O ?_;first|(apply P7;refine P6 O ?_)|(apply M6;refine M7 O ?_))|(apply G6;refine G7 (D8 O O) O ?_)|(apply K6;refine L9 O O O O O O (fun _=>?_))|(apply I5;first|(refine J9 O O O O ?_;first|(apply I1)|(apply H7))|refine o8 O O O O O O ?_))|(apply u7;first|(apply Y3;refine Y2 ?_)|(apply V8;refine Y4 O O ?_;refine F4 O ?_)|(apply Y1;refine Z7 O O ?_)|(apply V9;refine X9 (D8 O O) O ?_)|(apply AE3;first|refine V7 O O O (cP _) O O ?_ |refine V7 O O O (cG _) O O ?_))|(apply D6)|(apply G8)|(apply F3)|(apply A7)|(refine G5 O ?_;first|(apply H7)|(apply E9<;>intro hq<;>(try (exfalso;omega))))|(apply C9)|(apply H9)|refine V6 (by kernel_rfl) ?_)
   all_goals exact I8 H (by (exact .inl O)) O J3 ⟨O,fin⟩
  ·refine I7 Tryz.func110 O O O O O ?_
   repeat' (first|(apply E8;first|(apply A8;refine A9 ?_)|(apply C8;refine D7 O O ?_)|(apply E5;refine F7 O O O ?_;refine F9 O ?_)|(apply F5;refine F8 O O ?_;refine F4 O ?_)|(apply D5;refine D9 O O ?_)|(apply I6;refine J4 O O ?_;first|(apply P7;refine P6 O ?_)|(apply M6;refine M7 O ?_))|(apply G6;refine G7 (D8 O O) O ?_)|(apply K6;refine L9 O O O O O O (fun _=>?_))|(apply I5;first|(refine J9 O O O O ?_;first|(apply I1)|(apply H7)|(apply E9<;>intro hq<;>(try (exfalso;omega))))|refine o8 O O O O O O ?_))|(apply u7;first|(apply Y3;refine Y2 ?_)|(apply V8;refine Y4 O O ?_;refine F4 O ?_)|(apply Y1;refine Z7 O O ?_)|(apply V9;refine X9 (D8 O O) O ?_)|(apply AE3;first|refine V7 O O O (cP _) O O ?_ |refine V7 O O O (cG _) O O ?_))|(apply D6)|(apply G8)|(apply F3)|(apply A7)|(refine G5 O ?_;apply H7)|(apply C9)|(apply H9)|refine V6 (by kernel_rfl) ?_)
   all_goals exact I8 H (by (exact .inl O)) O J3 ⟨O,fin⟩
 by_cases g2:m=63
 ·have g3:c≠104∧c≠108:=⟨fun e=>h3 ⟨g2,.inl e⟩,fun e=>h3 ⟨g2,.inr e⟩⟩
  obtain⟨g4,g5⟩:=g3
  subst g2
  refine I7 Tryz.func110 O O O O O ?_
  repeat' (first|(apply E8;first|(apply A8;refine A9 ?_)|(apply C8;refine D7 O O ?_)|(apply E5;refine F7 O O O ?_;refine F9 O ?_)|(apply F5;refine F8 O O ?_;refine F4 O ?_)|(apply D5;refine D9 O O ?_)|(apply I6;refine J4 O O ?_;first|(apply P7;refine P6 O ?_)|(apply M6;refine M7 O ?_))|(apply G6;refine G7 (D8 O O) O ?_)|(apply K6;refine L9 O O O O O O (fun _=>?_))|(apply I5;refine J9 O O O O ?_;first|(apply I1)|(apply H7)|(apply P5<;>intro hq<;>(try (exfalso;omega)))))|(apply u7;first|(apply Y3;refine Y2 ?_)|(apply V8;refine Y4 O O ?_;refine F4 O ?_)|(apply Y1;refine Z7 O O ?_)|(apply V9;refine X9 (D8 O O) O ?_)|(apply AE3;first|refine V7 O O O (cP _) O O ?_ |refine V7 O O O (cG _) O O ?_))|(apply D6)|(apply G8)|(apply F3)|(apply A7)|(refine G5 O ?_;first|(apply H7)|(apply E9<;>intro hq<;>(try (exfalso;omega))))|(apply C9)|(apply H9)|refine V6 (by kernel_rfl) ?_)
  all_goals exact I8 H (by (exact .inl O)) O J3 ⟨O,fin⟩
 clear h2 h3
 refine I7 Tryz.func110 O O O O O ?_
 repeat' (first|(apply E8;first|(apply A8;refine A9 ?_)|(apply C8;refine D7 O O ?_)|(apply E5;refine F7 O O O ?_;refine F9 O ?_)|(apply F5;refine F8 O O ?_;refine F4 O ?_)|(apply D5;refine D9 O O ?_)|(apply I6;refine J4 O O ?_;apply M6;refine M7 O ?_)|(apply G6;refine G7 (D8 O O) O ?_)|(apply K6;refine L9 O O O O O O (fun _=>?_))|(apply I5;first|(refine J9 O O O O ?_;first|(apply H7)|(apply E9<;>intro hq<;>(try (exfalso;omega))))|refine o8 O O O O O O ?_))|(apply u7;first|(apply Y3;refine Y2 ?_)|(apply V8;refine Y4 O O ?_;refine F4 O ?_)|(apply Y1;refine Z7 O O ?_)|(apply V9;refine X9 (D8 O O) O ?_)|(apply AE3;first|refine V7 O O O (cP _) O O ?_ |refine V7 O O O (cG _) O O ?_))|(apply D6)|(apply G8)|(apply F3)|(apply A7)|(refine G5 O ?_;first|(apply H7)|(apply E9<;>intro hq<;>(try (exfalso;omega))))|(apply C9)|(apply H9)|refine V6 (by kernel_rfl) ?_)
 all_goals exact I8 H (by (exact .inl O)) O J3 ⟨O,fin⟩
theorem B84 (K H:List Ent) (s:Scr) (hq:TmQ G tb t s K H) (ht:t.size≤1000000) (L:List Int) (kk:Int) (i x:ByteArray) (aa:Option Addr) (ac:Nat) [h1:RdC G K aa (ints L)] (h2:getA L 0 0=0):SC Tryz.prog G 110 [.pointer (some ⟨tb,0,none⟩),acV kk 99 62 i aa L.length ac x] H fun v H'=>v=resV []∧TmQ G tb (t++⟨#[27,91,62,49,59,49,48,59,48,99]⟩) s K H':=by
 haveI hr:RdC G H aa (ints L):=⟨fun w hw=>h1.here w (hq.rd w hw)⟩
 have cP:=fun (H:List Ent) [RdC G H aa (ints L)]=>AZ4 G H L aa ac 0
 have cG:=fun (H:List Ent) [RdC G H aa (ints L)]=>AY9 G H L aa ac 0 0
 rw[h2] at cG
 generalize posA L 0=n at *
 generalize L.length=ln at *
 obtain⟨v6,hv6⟩:∃v,t++(⟨#[27,91,62,49,59,49,48,59,48,99]⟩:ByteArray)=v:=⟨_,rfl⟩
 have q3:(⟨#[27,91,62,49,59,49,48,59,48,99]⟩:ByteArray).size=10:=rfl
 rw[hv6]
 unfold acV at *
 obtain⟨gb,gn,gc,ob,on,oc,P,pa,pn,pc,X,E,rfl,hi⟩:=hq
 have hfin:∀H',H'= .blk tb 158 (trmC s (some ⟨gb,0,none⟩) gn gc (some ⟨ob,0,none⟩) on oc pa pn pc v6):: .own 97 4 (some ⟨gb,0,none⟩) gn gc (qds s.C):: .own 97 4 (some ⟨ob,0,none⟩) on oc (qds s.D)::P::(E++K)→TmQ G tb v6 s K H':=fun H' e=>⟨gb,gn,gc,ob,on,oc,P,pa,pn,pc,X,E,e,hi⟩
 clear hi
 unfold trmC at *
 refine I7 Tryz.func110 O O O O O ?_
 repeat' (first|(apply E8;first|(apply A8;refine A9 ?_)|(apply C8;refine D7 O O ?_)|(apply E5;refine F7 O O O ?_;first|(refine AD4 hv6 (by omega) ?_)|(refine F9 O ?_))|(apply F5;refine F8 O O ?_;refine F4 O ?_)|(apply D5;refine D9 O O ?_)|(apply I6;refine J4 O O ?_;apply P7;refine P6 O ?_)|(apply G6;refine G7 (D8 O O) O ?_)|(apply I9;refine J7 (F6 O O) O ?_)|(apply H8;refine M9 O O O O O O O ?_)|(apply K6;refine L9 O O O O O O (fun _=>?_))|(apply I5;refine J9 O O O O ?_;apply I1))|(apply u7;first|(apply Y3;refine Y2 ?_)|(apply V8;refine Y4 O O ?_;refine F4 O ?_)|(apply Y1;refine Z7 O O ?_)|(apply V9;refine X9 (D8 O O) O ?_)|(apply AE3;first|refine V7 O O O (cP _) O O ?_ |refine V7 O O O (cG _) O O ?_))|(apply D6)|(apply F3)|(apply A7)|(refine G5 O ?_;first|(apply I1)|(apply H7))|(apply C9)|(apply H9)|refine V6 (by kernel_rfl) ?_)
 all_goals exact I8 (.blk tb 158 _:: .own 97 4 (some ⟨gb,0,none⟩) gn gc (qds s.C):: .own 97 4 (some ⟨ob,0,none⟩) on oc (qds s.D)::P::(E++K)) (by (exact .inl O)) O J3 ⟨O,hfin _ O⟩
theorem CB9 (K H:List Ent) (s:Scr) (h:OkS s) (hq:TmQ G tb t s K H) (L:List Int) (hll:L.length≤1000) (kk c:Int) (i x:ByteArray) (aa:Option Addr) (ac:Nat) [h1:RdC G K aa (ints L)] (hc:c=104∨c=108):SC Tryz.prog G 110 [.pointer (some ⟨tb,0,none⟩),acV kk c 63 i aa L.length ac x] H fun v H'=>v=resV []∧TmQ G tb t (L.foldl (privA (decide (c=104))) s) K H':=by
 haveI hr:RdC G H aa (ints L):=⟨fun w hw=>h1.here w (hq.rd w hw)⟩
 have cP:=fun (H:List Ent) [RdC G H aa (ints L)]=>AZ4 G H L aa ac 0
 have cG:=fun (H:List Ent) [RdC G H aa (ints L)]=>AY9 G H L aa ac 0 0
 have hlx:(ints L).length=L.length * 1:=by simp [ints]
 have hfo:∀j,OkS ((L.take j).foldl (privA (decide (c=104))) s):=fun j=>AW5 (fun s m h=>h.priv _ m) _ _ h
 have hst:∀j,j<L.length→(L.take (j+1)).foldl (privA (decide (c=104))) s=privA (decide (c=104)) ((L.take j).foldl (privA (decide (c=104))) s) (L.getD j 0):=fun j hj=>Ao0 s hj
 have hfin:(L.take L.length).foldl (privA (decide (c=104))) s=L.foldl (privA (decide (c=104))) s:=by rw[List.take_length]
 rw[←hfin]
 clear hfin
 have hb0:(c==104)=decide (c=104):=BQ5 c 104
 generalize hbb:decide (c=104)=bb at *
 generalize posA L 0=n at *
 generalize getA L 0 0=k at *
 have h00:(L.take 0).foldl (privA bb) s=s:=rfl
 unfold acV
 refine I7 Tryz.func110 O O O O O ?_
 rcases hc with rfl|rfl
 all_goals
  repeat' (first|(apply E8;first|(apply A8;refine A9 ?_)|(apply C8;refine D7 O O ?_)|(apply E5;refine F7 O O O ?_;refine F9 O ?_)|(apply F5;refine F8 O O ?_;refine F4 O ?_)|(apply D5;refine D9 O O ?_)|(apply I6;refine J4 O O ?_;first|(apply P7;refine P6 O ?_)|(apply M6;refine M7 O ?_))|(apply G6;refine G7 (D8 O O) O ?_)|(apply K6;refine L9 O O O O O O (fun _=>?_))|(apply I5;refine J9 O O O O ?_;first|(apply I1)|(apply H7)|(apply d9)))|(apply u7;first|(apply Y3;refine Y2 ?_)|(apply V8;refine Y4 O O ?_;refine F4 O ?_)|(apply Y1;refine Z7 O O ?_)|(apply V9;refine X9 (D8 O O) O ?_)|(apply AE3;first|refine V7 O O O (cP _) O O ?_ |refine V7 O O O (cG _) O O ?_))|(apply D6)|(apply F3)|((fail_if_success (refine J5 (id:=8) ?_));apply A7)|(refine G5 O ?_;first|(apply I1)|(apply H7))|(apply C9)|((fail_if_success (refine J5 (id:=8) ?_));refine V6 (by kernel_rfl) ?_))
  all_goals
   rename_i b
   obtain⟨H2,hp2,hq2⟩:=hq.push (.blk b 160 [.int .i64 kk,.int .i64 _,.int .i64 63,.string i,.slice aa L.length ac,.string x])
   refine Z5 H2 (fun _ hw=>hw.perm hp2) ?_
   haveI:=hq2.hasB AB1
   repeat' (first|(apply E8;first|(apply A8;refine A9 ?_)|(apply C8;refine D7 O O ?_)|(apply F5;refine F8 O O ?_;refine F4 O ?_)|(apply G6;refine G7 (D8 O O) O ?_)|(apply K5;refine s_call (S9 O O) O ?_))|(apply F3)|((fail_if_success (refine J5 (id:=9) ?_));apply A7)|(apply C9))
   refine R7 (α:=Nat×List Ent) (fun g=>[(0,.pointer (some ⟨tb,0,none⟩)),(3,.pointer (some ⟨b,0,none⟩)),(72,.slice aa L.length ac),(73,.int .i64 L.length),(74,.int .i64 g.1)]) (fun g=>g.2)
    (fun g=>g.1≤L.length∧TmQ G tb t ((L.take g.1).foldl (privA bb) s) (.blk b 160 [.int .i64 kk,.int .i64 _,.int .i64 63,.string i,.slice aa L.length ac,.string x]::K) g.2) (fun g=>L.length-g.1) (0,_) ⟨Nat.zero_le _,hq2⟩ Q7 (fun _ hw=>hw) ?_
   clear hp2 hq2 this cP cG
   rintro ⟨j,Hj⟩ ⟨hj,hqj⟩
   dsimp only at hj hqj ⊢
   by_cases hlt:(j:Int)<L.length
   ·have hjo:=hfo j
    have hjs:=hst j (by omega)
    have hx:(ints L)[(j:Int).toNat * 1]? =some (.int .i64 (L.getD j 0)):=by
     rw[Int.toNat_natCast,Nat.mul_one,List.getD_eq_getElem?_getD,List.getElem?_eq_getElem (show j<L.length by omega)]
     simp [ints,show j<L.length by omega]
    haveI:=hqj.hasB AB1
    haveI:RdC G Hj aa (ints L):=⟨fun w hw=>h1.here w (hqj.rd w hw).drop⟩
    clear hfo hst h00
    generalize (L.take j).foldl (privA bb) s=sj at *
    generalize L.getD j 0=z at *
    have cV:=privQ G tb t _ _ sj hjo hqj z
    repeat' (first|(apply E8;first|(apply A8;refine A9 ?_)|(apply C8;refine D7 O O ?_)|(apply E5;refine F7 O O O ?_;first|(apply K9;refine L6 ⟨by omega,by omega⟩ ?_)|refine F9 O ?_)|(apply F5;first|(refine F8 O O ?_;refine F4 O ?_)|(refine F8 O O ?_;refine X8 hx ?_))|(apply D5;refine D9 O O ?_)|(apply G6;refine G7 (D8 O O) O ?_)|(apply M4;refine M8 (K7 O O O hlx (by omega) (by omega)) O ?_)|(apply H5;refine c_call O O O (cV _) O O ?_;rintro _ _ ⟨rfl,hq3⟩))|(apply D6)|(apply G8)|(apply F3)|(apply A7)|(refine G5 O ?_;apply E9<;>intro hq<;>(try (exfalso;omega)))|(apply C9)|(apply H9))
    rw[hb0] at hq3
    exact J6 (j+1,_) ⟨⟨by dsimp only;omega,by dsimp only;rw[hjs];exact hq3⟩,by dsimp only;omega⟩ Q7 (fun _ hw=>hw)
   ·obtain rfl:j=L.length:=by omega
    repeat' (first|(apply E8;first|(apply A8;refine A9 ?_)|(apply E5;refine F7 O O O ?_;refine F9 O ?_))|(apply D6)|(apply O7)|(apply A7)|(refine G5 O ?_;apply E9<;>intro hq<;>(try (exfalso;omega)))|(apply C9)|(apply K3)|(apply H9)|(apply K4))
    exact I8 _ (by (exact .inl O)) O (fun _ hw=>hw) ⟨O,hqj.cut⟩
theorem seqQ (hT:∀H,AB2 G H) (K H:List Ent) (s:Scr) (h:OkS s) (hq:TmQ G tb t s K H) (ht:t.size≤1000000) (L:List Int) (hL:∀x∈L,-1≤x∧x≤16383) (hll:L.length≤1000) (kk c m:Int) (i x:ByteArray) (aa:Option Addr) (ac:Nat) [h1:RdC G K aa (ints L)]:SC Tryz.prog G 110 [.pointer (some ⟨tb,0,none⟩),acV kk c m i aa L.length ac x] H fun v H'=>v=resV []∧TmQ G tb (t++seqT s c m L) (seqA s c m L) K H':=by
 by_cases g0:m=0
 ·subst g0;exact CE2 G tb t hT K H s h hq ht L hL hll kk c i x aa ac
 unfold seqA seqT
 rw[if_neg g0,if_neg g0]
 by_cases g1:m=62∧c=99∧getA L 0 0=0
 ·rw[if_pos g1,if_neg (by omega)]
  obtain⟨rfl,rfl,g3⟩:=g1
  exact B84 G tb t K H s hq ht L kk i x aa ac g3
 rw[if_neg g1,AG0]
 by_cases g2:m=63∧(c=104∨c=108)
 ·rw[if_pos g2]
  obtain⟨rfl,g3⟩:=g2
  exact CB9 G tb t K H s h hq L hll kk c i x aa ac g3
 rw[if_neg g2]
 exact B93 G tb t hT K H s hq L kk c m i x aa ac g0 g1 g2
end
theorem An3 (G:Ctx) (H:List Ent) (s p:ByteArray):SV Tryz.prog G 109 [.string s,.string p] H (.bool (Lib.hasPrefix s.data.toList p.data.toList)):=
 u6 (l8 Tryz.func109 rfl rfl) fun w _=>(Tryz.strings_HasPrefix s p w).mono fun e w' ⟨h1,h2⟩=>⟨h1,by rw[h2];exact Below.refl _ _⟩
section
attribute [local irreducible] SW SL SQ AtQ SV SC BB LD PK Yields SO SOT SOA SY SP SPT SPA
variable (G:Ctx) (tb:Nat) (t:ByteArray)
theorem Al4 {t':ByteArray} {s s':Scr} (K H:List Ent) (hq:TmQ G tb t s K H) (k c m:Int) (i x:ByteArray) (aa:Option Addr) (an ac:Nat) (f:Nat)
 (hk:(k=1∧f=105)∨(k=2∧f=106)∨(k=3∧i=e0∧f=107))
 (hf:∀K' H',(∀w,Holds G K' w→Holds G K w)→TmQ G tb t s K' H'→SC Tryz.prog G f [.pointer (some ⟨tb,0,none⟩),.int .i64 c] H' fun v H''=>v=resV []∧TmQ G tb t' s' K' H''):
 SC Tryz.prog G 58 [.pointer (some ⟨tb,0,none⟩),acV k c m i aa an ac x] H fun v H'=>v=resV []∧TmQ G tb t' s' K H':=by
 unfold acV
 rcases hk with ⟨rfl,rfl⟩|⟨rfl,rfl⟩|⟨rfl,rfl,rfl⟩
 ·refine I7 Tryz.func58 O O O O O ?_
  repeat' (first|(apply E8;first|(apply A8;refine A9 ?_)|(apply E5;refine F7 O O O ?_;refine F9 O ?_)|(apply F5;refine F8 O O ?_;refine F4 O ?_)|(apply D5;refine D9 O O ?_)|(apply G6;refine G7 (D8 O O) O ?_)|(apply K6;refine L9 O O O O O O (fun _=>?_)))|(apply D6)|(apply F3)|((fail_if_success (refine J5 (id:=2) ?_));apply A7)|(refine G5 O ?_;apply I1)|(apply C9))
  rename_i b
  obtain⟨H2,hp2,hq2⟩:=hq.push (.blk b 160 [.int .i64 1,.int .i64 c,.int .i64 m,.string i,.slice aa an ac,.string x])
  refine Z5 H2 (fun _ hw=>hw.perm hp2) ?_
  haveI:=hq2.hasB AB1
  repeat' (first|(apply E8;first|(apply A8;refine A9 ?_)|(apply C8;refine D7 O O ?_)|(apply F5;refine F8 O O ?_;refine F4 O ?_)|(apply G6;refine G7 (D8 O O) O ?_)|(apply H5;refine c_call O O O (hf _ _ (fun _ hw=>hw.drop) hq2) O O ?_;rintro _ _ ⟨rfl,hq3⟩))|(apply A7)|(apply H9))
  exact I8 _ (by (exact .inl O)) O (fun _ hw=>hw) ⟨O,hq3.cut⟩
 ·refine I7 Tryz.func58 O O O O O ?_
  repeat' (first|(apply E8;first|(apply A8;refine A9 ?_)|(apply E5;refine F7 O O O ?_;refine F9 O ?_)|(apply F5;refine F8 O O ?_;refine F4 O ?_)|(apply D5;refine D9 O O ?_)|(apply G6;refine G7 (D8 O O) O ?_)|(apply K6;refine L9 O O O O O O (fun _=>?_)))|(apply D6)|(apply F3)|((fail_if_success (refine J5 (id:=4) ?_));apply A7)|(refine G5 O ?_;first|(apply I1)|(apply H7))|(apply C9))
  rename_i b
  obtain⟨H2,hp2,hq2⟩:=hq.push (.blk b 160 [.int .i64 2,.int .i64 c,.int .i64 m,.string i,.slice aa an ac,.string x])
  refine Z5 H2 (fun _ hw=>hw.perm hp2) ?_
  haveI:=hq2.hasB AB1
  repeat' (first|(apply E8;first|(apply A8;refine A9 ?_)|(apply C8;refine D7 O O ?_)|(apply F5;refine F8 O O ?_;refine F4 O ?_)|(apply G6;refine G7 (D8 O O) O ?_)|(apply H5;refine c_call O O O (hf _ _ (fun _ hw=>hw.drop) hq2) O O ?_;rintro _ _ ⟨rfl,hq3⟩))|(apply A7)|(apply H9))
  exact I8 _ (by (exact .inl O)) O (fun _ hw=>hw) ⟨O,hq3.cut⟩
 ·refine I7 Tryz.func58 O O O O O ?_
  repeat' (first|(apply E8;first|(apply A8;refine A9 ?_)|(apply C8;refine D7 O O ?_)|(apply E5;refine F7 O O O ?_;first|(refine AB9 ?_)|(refine F9 O ?_))|(apply F5;refine F8 O O ?_;refine F4 O ?_)|(apply D5;refine D9 O O ?_)|(apply I6;refine J4 O O ?_;apply P7;refine P6 O ?_)|(apply G6;refine G7 (D8 O O) O ?_)|(apply K6;refine L9 O O O O O O (fun _=>?_))|(apply I5;refine J9 O O O O ?_;apply I1))|(apply D6)|(apply F3)|((fail_if_success (refine J5 (id:=6) ?_));apply A7)|(refine G5 O ?_;first|(apply I1)|(apply H7))|(apply C9))
  rename_i b
  obtain⟨H2,hp2,hq2⟩:=hq.push (.blk b 160 [.int .i64 3,.int .i64 c,.int .i64 m,.string e0,.slice aa an ac,.string x])
  refine Z5 H2 (fun _ hw=>hw.perm hp2) ?_
  haveI:=hq2.hasB AB1
  repeat' (first|(apply E8;first|(apply A8;refine A9 ?_)|(apply C8;refine D7 O O ?_)|(apply F5;refine F8 O O ?_;refine F4 O ?_)|(apply G6;refine G7 (D8 O O) O ?_)|(apply H5;refine c_call O O O (hf _ _ (fun _ hw=>hw.drop) hq2) O O ?_;rintro _ _ ⟨rfl,hq3⟩))|(apply A7)|(apply H9))
  exact I8 _ (by (exact .inl O)) O (fun _ hw=>hw) ⟨O,hq3.cut⟩
theorem Bi1 (K H:List Ent) (s:Scr) (h:OkS s) (hq:TmQ G tb t s K H) (c m:Int) (i x:ByteArray) (aa:Option Addr) (an ac:Nat) (hi:i≠e0):
 SC Tryz.prog G 58 [.pointer (some ⟨tb,0,none⟩),acV 3 c m i aa an ac x] H fun v H'=>v=resV []∧TmQ G tb t (pageA s i c) K H':=by
 have d1:decide (i=(⟨#[]⟩:ByteArray))=false:=decide_eq_false hi
 have cP:=fun K' H' (hq':TmQ G tb t s K' H')=>pageQ G tb t K' H' s h hq' i c
 generalize pageA s i c=s2 at *
 unfold acV
 refine I7 Tryz.func58 O O O O O ?_
 repeat' (first|(apply E8;first|(apply A8;refine A9 ?_)|(apply C8;refine D7 O O ?_)|(apply E5;refine F7 O O O ?_;first|(refine AB9 ?_;rw[d1])|(refine F9 O ?_))|(apply F5;refine F8 O O ?_;refine F4 O ?_)|(apply D5;refine D9 O O ?_)|(apply I6;refine J4 O O ?_;apply P7;refine P6 O ?_)|(apply G6;refine G7 (D8 O O) O ?_)|(apply K6;refine L9 O O O O O O (fun _=>?_))|(apply I5;refine J9 O O O O ?_;apply I1))|(apply D6)|(apply F3)|((fail_if_success (refine J5 (id:=8) ?_));apply A7)|(refine G5 O ?_;first|(apply I1)|(apply H7))|(apply C9))
 rename_i b
 obtain⟨H2,hp2,hq2⟩:=hq.push (.blk b 160 [.int .i64 3,.int .i64 c,.int .i64 m,.string i,.slice aa an ac,.string x])
 refine Z5 H2 (fun _ hw=>hw.perm hp2) ?_
 haveI:=hq2.hasB AB1
 repeat' (first|(apply E8;first|(apply A8;refine A9 ?_)|(apply C8;refine D7 O O ?_)|(apply F5;refine F8 O O ?_;refine F4 O ?_)|(apply G6;refine G7 (D8 O O) O ?_)|(apply H5;refine c_call O O O (cP _ _ hq2) O O ?_;rintro _ _ ⟨rfl,hq3⟩))|(apply A7)|(apply H9))
 exact I8 _ (by (exact .inl O)) O (fun _ hw=>hw) ⟨O,hq3.cut⟩
theorem B09 (hT:∀H,AB2 G H) (K H:List Ent) (s:Scr) (h:OkS s) (hq:TmQ G tb t s K H) (ht:t.size≤1000000) (L:List Int) (hL:∀x∈L,-1≤x∧x≤16383) (hll:L.length≤1000) (c m:Int) (x:ByteArray) (aa:Option Addr) (ac:Nat) [h1:RdC G K aa (ints L)]:
 SC Tryz.prog G 58 [.pointer (some ⟨tb,0,none⟩),acV 4 c m e0 aa L.length ac x] H fun v H'=>v=resV []∧TmQ G tb (t++seqT s c m L) (seqA s c m L) K H':=by
 have cS:=fun K' H' (hq':TmQ G tb t s K' H') (h1':RdC G K' aa (ints L))=>seqQ G tb t hT K' H' s h hq' ht L hL hll 4 c m e0 x aa ac
 generalize seqA s c m L=s2 at *
 generalize t++seqT s c m L=t2 at *
 generalize L.length=ln at *
 unfold acV at *
 refine I7 Tryz.func58 O O O O O ?_
 repeat' (first|(apply E8;first|(apply A8;refine A9 ?_)|(apply C8;refine D7 O O ?_)|(apply E5;refine F7 O O O ?_;first|(refine AB9 ?_)|(refine F9 O ?_))|(apply F5;refine F8 O O ?_;refine F4 O ?_)|(apply D5;refine D9 O O ?_)|(apply I6;refine J4 O O ?_;first|(apply P7;refine P6 O ?_)|(apply M6;refine M7 O ?_))|(apply G6;refine G7 (D8 O O) O ?_)|(apply K6;refine L9 O O O O O O (fun _=>?_))|(apply I5;refine J9 O O O O ?_;first|(apply I1)|(apply H7)))|(apply D6)|(apply F3)|((fail_if_success (refine J5 (id:=13) ?_));apply A7)|(refine G5 O ?_;first|(apply I1)|(apply H7))|(apply C9))
 rename_i b
 obtain⟨H2,hp2,hq2⟩:=hq.push (.blk b 160 [.int .i64 4,.int .i64 c,.int .i64 m,.string e0,.slice aa ln ac,.string x])
 refine Z5 H2 (fun _ hw=>hw.perm hp2) ?_
 haveI:=hq2.hasB AB1
 repeat' (first|(apply E8;first|(apply A8;refine A9 ?_)|(apply C8;refine D7 O O ?_)|(apply F5;refine F8 O O ?_;refine M5 O ?_)|(apply H5;refine c_call O O O (cS _ _ hq2 inferInstance) O O ?_;rintro _ _ ⟨rfl,hq3⟩))|(apply A7)|(apply H9))
 exact I8 _ (by (exact .inl O)) O (fun _ hw=>hw) ⟨O,hq3.cut⟩
theorem CB6 (H:List Ent) (p:Value) (k c m:Int) (i x:ByteArray) (aa:Option Addr) (an ac:Nat) (hk:¬k=1∧¬k=2∧¬k=3∧¬k=5) (hi:k≠4∨i≠e0):SC Tryz.prog G 58 [p,acV k c m i aa an ac x] H fun v H'=>v=resV []∧H'=H:=by
 obtain⟨k1,k2,k3,k5⟩:=hk
 unfold acV
 by_cases k4:k=4
 ·have d1:decide (i=(⟨#[]⟩:ByteArray))=false:=decide_eq_false (hi.resolve_left fun h=>h k4)
  subst k4
  refine I7 Tryz.func58 O O O O O ?_
  repeat' (first|(apply E8;first|(apply A8;refine A9 ?_)|(apply C8;refine D7 O O ?_)|(apply E5;refine F7 O O O ?_;first|(refine AB9 ?_;rw[d1])|(refine F9 O ?_))|(apply F5;refine F8 O O ?_;refine F4 O ?_)|(apply D5;refine D9 O O ?_)|(apply I6;refine J4 O O ?_;first|(apply P7;refine P6 O ?_)|(apply M6;refine M7 O ?_))|(apply G6;refine G7 (D8 O O) O ?_)|(apply K6;refine L9 O O O O O O (fun _=>?_))|(apply I5;refine J9 O O O O ?_;first|(apply I1)|(apply H7)))|(apply D6)|(apply G8)|(apply F3)|(apply A7)|(refine G5 O ?_;apply H7)|(apply C9)|(apply H9))
  exact I8 H (by (exact .inl O)) O J3 ⟨O,O⟩
 ·refine I7 Tryz.func58 O O O O O ?_
  repeat' (first|(apply E8;first|(apply A8;refine A9 ?_)|(apply C8;refine D7 O O ?_)|(apply E5;refine F7 O O O ?_;refine F9 O ?_)|(apply F5;refine F8 O O ?_;refine F4 O ?_)|(apply D5;refine D9 O O ?_)|(apply I6;refine J4 O O ?_;apply M6;refine M7 O ?_)|(apply G6;refine G7 (D8 O O) O ?_)|(apply K6;refine L9 O O O O O O (fun _=>?_))|(apply I5;refine J9 O O O O ?_;first|(apply H7)|(apply E9<;>intro hq<;>(try (exfalso;omega)))))|(apply D6)|(apply G8)|(apply F3)|(apply A7)|(refine G5 O ?_;first|(apply H7)|(apply E9<;>intro hq<;>(try (exfalso;omega))))|(apply C9)|(apply H9))
  exact I8 H (by (exact .inl O)) O J3 ⟨O,O⟩
theorem Bx6 (H:List Ent) (s:Scr) (ga:Option Addr) (gn gc:Nat) (oa:Option Addr) (on oc:Nat) (pa:Option Addr) (pn pc:Nat) (c m:Int) (i x:ByteArray) (hx:x.size≤1000000) (aa:Option Addr) (an ac:Nat):SC Tryz.prog G 58 [.pointer (some ⟨tb,0,none⟩),acV 5 c m i aa an ac x] (.blk tb 158 (trmC s ga gn gc oa on oc pa pn pc t)::H) fun v H'=>v=resV []∧H'= .blk tb 158 (trmC (titA s x) ga gn gc oa on oc pa pn pc t)::H:=by
 have cP:∀H,SV Tryz.prog G 109 [.string x,.string ⟨#[48,59]⟩] H (.bool (Lib.hasPrefix x.data.toList [48,59])):=fun H=>An3 G H x ⟨#[48,59]⟩
 have cP2:∀H,SV Tryz.prog G 109 [.string x,.string ⟨#[50,59]⟩] H (.bool (Lib.hasPrefix x.data.toList [50,59])):=fun H=>An3 G H x ⟨#[50,59]⟩
 have hz:∀a b:UInt8,Lib.hasPrefix x.data.toList [a,b]=true→2≤x.size:=fun a b h=>by
  have h1:=(List.isPrefixOf_iff_prefix.1 h).length_le
  have h2:x.data.toList.length=x.size:=by rw[Array.length_toList];rfl
  rw[h2] at h1
  exact h1
 have z1:=hz 48 59
 have z2:=hz 50 59
 clear hz
 unfold titA acV
 cases h1:Lib.hasPrefix x.data.toList [48,59]
 ·rw[h1] at cP
  cases h2:Lib.hasPrefix x.data.toList [50,59]
  ·rw[h2] at cP2
   rw[if_neg (by decide)]
   clear z1 z2
   unfold trmC
   refine I7 Tryz.func58 O O O O O ?_
   repeat' (first|(apply E8;first|(apply A8;refine A9 ?_)|(apply C8;refine D7 O O ?_)|(apply E5;refine F7 O O O ?_;refine F9 O ?_)|(apply F5;refine F8 O O ?_;refine F4 O ?_)|(apply D5;refine D9 O O ?_)|(apply I6;refine J4 O O ?_;apply M6;refine M7 O ?_)|(apply G6;refine G7 (D8 O O) O ?_)|(apply H5;first|refine H6 O O O (cP _) O O ?_ |refine H6 O O O (cP2 _) O O ?_)|(apply K6;refine L9 O O O O O O (fun _=>?_))|(apply I5;refine J9 O O O O ?_;first|(apply I1)|(apply H7)))|(apply D6)|(apply G8)|(apply F3)|(apply A7)|(refine G5 O ?_;first|(apply I1)|(apply H7))|(apply C9)|(apply H9))
   all_goals exact I8 (.blk tb 158 _::H) (by (exact .inl O)) O J3 ⟨O,O⟩
  ·rw[h2] at cP2
   have hxx:=z2 h2
   obtain⟨v,hv⟩:∃v,x.extract (2:Int).toNat (x.size:Int).toNat=v:=⟨_,rfl⟩
   rw[if_pos (.inr rfl),show x.extract 2 x.size=v from hv]
   clear z1 z2
   unfold trmC
   refine I7 Tryz.func58 O O O O O ?_
   repeat' (first|(apply E8;first|(apply A8;refine A9 ?_)|(apply C8;refine D7 O O ?_)|(apply E5;refine F7 O O O ?_;refine F9 O ?_)|(apply F5;refine F8 O O ?_;refine F4 O ?_)|(apply D5;refine D9 O O ?_)|(apply I6;refine J4 O O ?_;apply M6;refine M7 O ?_)|(apply G6;refine G7 (D8 O O) O ?_)|(apply I9;refine J7 (F6 O O) O ?_)|(apply H5;first|refine H6 O O O (cP _) O O ?_ |refine H6 O O O (cP2 _) O O ?_)|(apply H8;refine M9 O O O O O O O ?_)|(apply K6;refine L9 O O O O O O (fun _=>?_))|(apply r9;refine AL0 (AD6 hv O O O O (by omega) (by omega) (by omega)) O ?_)|(apply I5;refine J9 O O O O ?_;first|(apply I1)|(apply H7)))|(apply D6)|(apply F3)|(apply A7)|(refine G5 O ?_;first|(apply I1)|(apply H7))|(apply C9)|(apply H9))
   all_goals exact I8 (.blk tb 158 _::H) (by (exact .inl O)) O J3 ⟨O,O⟩
 ·rw[h1] at cP
  have hxx:=z1 h1
  obtain⟨v,hv⟩:∃v,x.extract (2:Int).toNat (x.size:Int).toNat=v:=⟨_,rfl⟩
  rw[if_pos (.inl rfl),show x.extract 2 x.size=v from hv]
  clear z1 z2
  unfold trmC
  refine I7 Tryz.func58 O O O O O ?_
  repeat' (first|(apply E8;first|(apply A8;refine A9 ?_)|(apply C8;refine D7 O O ?_)|(apply E5;refine F7 O O O ?_;refine F9 O ?_)|(apply F5;refine F8 O O ?_;refine F4 O ?_)|(apply D5;refine D9 O O ?_)|(apply I6;refine J4 O O ?_;first|(apply P7;refine P6 O ?_)|(apply M6;refine M7 O ?_))|(apply G6;refine G7 (D8 O O) O ?_)|(apply I9;refine J7 (F6 O O) O ?_)|(apply H5;refine H6 O O O (cP _) O O ?_)|(apply H8;refine M9 O O O O O O O ?_)|(apply K6;refine L9 O O O O O O (fun _=>?_))|(apply r9;refine AL0 (AD6 hv O O O O (by omega) (by omega) (by omega)) O ?_)|(apply I5;refine J9 O O O O ?_;first|(apply H7)|(apply d9)))|(apply D6)|(apply F3)|(apply A7)|(refine G5 O ?_;first|(apply I1)|(apply H7))|(apply C9)|(apply H9))
  all_goals exact I8 (.blk tb 158 _::H) (by (exact .inl O)) O J3 ⟨O,O⟩
theorem Bh1 (s:Scr) (x:ByteArray):(titA s x).C=s.C∧(titA s x).D=s.D∧(titA s x).past=s.past:=by
 unfold titA;split<;>exact⟨O,O,O⟩
def actIn (y:Pa):Prop:=actOk y∧(y.1=1→ -1≤y.2.1∧y.2.1≤2000000)
theorem actQ (hT:∀H,AB2 G H) (K H:List Ent) (s:Scr) (h:OkS s) (hq:TmQ G tb t s K H) (ht:t.size≤1000000) (y:Ac) (hy:actIn (plA y)) [h1:RdC G K y.2.2.2.2.1.1 (ints y.2.2.2.2.1.2.2)]:
 SC Tryz.prog G 58 [.pointer (some ⟨tb,0,none⟩),acV y.1 y.2.1 y.2.2.1 y.2.2.2.1 y.2.2.2.2.1.1 y.2.2.2.2.1.2.2.length y.2.2.2.2.1.2.1 y.2.2.2.2.2] H fun v H'=>v=resV []∧TmQ G tb (t++actT s (plA y)) (actA s (plA y)) K H':=by
 obtain⟨k,c,m,i,⟨a,ac,L⟩,x⟩:=y
 obtain⟨⟨hy1,hy2,hy3⟩,hy4⟩:=hy
 unfold plA at *
 dsimp only at *
 unfold actA actT
 dsimp only
 by_cases g1:k=1
 ·rw[if_pos g1,if_neg (by omega),AG0]
  exact Al4 G tb t K H hq k c m i x a L.length ac _ (.inl ⟨g1,O⟩) fun K' H' hk hq'=>B67 G tb t K' H' s h hq' c (hy4 g1)
 rw[if_neg g1]
 by_cases g2:k=2
 ·rw[if_pos g2,if_neg (by omega),AG0]
  exact Al4 G tb t K H hq k c m i x a L.length ac _ (.inr (.inl ⟨g2,O⟩)) fun K' H' hk hq'=>ctrlQ G tb t K' H' s h hq' c
 rw[if_neg g2]
 by_cases g3:k=3
 ·rw[if_pos g3,if_neg (by omega),AG0]
  by_cases gi:i=e0
  ·rw[if_pos gi]
   exact Al4 G tb t K H hq k c m i x a L.length ac _ (.inr (.inr ⟨g3,gi,O⟩)) fun K' H' hk hq'=>escQ G tb t K' H' s h hq' c
  ·rw[if_neg gi];subst g3
   exact Bi1 G tb t K H s h hq c m i x a L.length ac gi
 rw[if_neg g3]
 by_cases g5:k=5
 ·rw[if_pos g5,if_neg (by omega),AG0];subst g5
  have ht:=Bh1 s x
  exact hq.blk ht.1 ht.2.1 ht.2.2 fun ga gn gc oa on oc pa pn pc H=>Bx6 G tb t H s ga gn gc oa on oc pa pn pc c m i x (by omega) a L.length ac
 rw[if_neg g5]
 by_cases g4:k=4∧i=e0
 ·rw[if_pos g4,if_pos g4]
  obtain⟨rfl,rfl⟩:=g4
  exact B09 G tb t hT K H s h hq ht L hy2 (by omega) c m x a ac
 ·rw[if_neg g4,if_neg g4,AG0]
  exact AA7 (CB6 G H _ k c m i x a L.length ac ⟨g1,g2,g3,g5⟩ (by
   by_cases e:k=4
   ·exact .inr fun e2=>g4 ⟨e,e2⟩
   ·exact .inl e)) fun v H' ⟨e1,e2⟩=>⟨e1,by rw[e2];exact hq⟩
end
structure Toc where
 w:Int
 h:Int
 row:Int
 col:Int
 late:Bool
 top:Int
 bot:Int
 pf:Int
 pr:Int
 pb:Int
 modes:Int
 s0:Int
 s1:Int
 s2:Int
 s3:Int
 p0:Int
 p1:Int
 sh:Int
 sr:Int
 sc:Int
 spf:Int
 spr:Int
 spb:Int
 so:Bool
 sp0:Int
 sp1:Int
 ssh:Int
 w2:Int
 h2:Int
 ti:ByteArray
def tocC (t:Toc) (ga:Option Addr) (gn gc:Nat) (oa:Option Addr) (on oc:Nat) (pa:Option Addr) (pn pc:Nat):List Value:=
 (.int .i64 t.w:: .int .i64 t.h:: .slice ga gn gc:: .int .i64 t.row:: .int .i64 t.col:: .bool t.late:: .int .i64 t.top:: .int .i64 t.bot:: .int .i64 t.pf:: .int .i64 t.pr:: .int .i64 t.pb:: .int .i64 t.modes::
  .int .u64 t.s0:: .int .u64 t.s1:: .int .u64 t.s2:: .int .u64 t.s3:: .int .i64 t.p0:: .int .i64 t.p1:: .int .i64 t.sh:: .int .i64 t.sr:: .int .i64 t.sc:: .int .i64 t.spf:: .int .i64 t.spr:: .int .i64 t.spb:: .bool t.so:: .int .i64 t.sp0:: .int .i64 t.sp1:: .int .i64 t.ssh::
  .int .i64 t.w2:: .int .i64 t.h2:: .slice oa on oc:: .string t.ti:: .slice pa pn pc::[])
def tk2 (t:Toc) (ge gd _pe _ps:Int):Prop:=ge=0∧gd=0∧t.w=t.w2∧t.h=t.h2
def tk3 (t:Toc) (ge gd _pe _ps:Int):Prop:=tk2 t ge gd _pe _ps∧(0≤t.row∧t.row≤t.h-1)∧(0≤t.col∧t.col≤t.w-1)∧(t.late=false∨t.col=t.w-1)
def tk4 (t:Toc) (ge gd _pe _ps:Int):Prop:=tk3 t ge gd _pe _ps∧(0≤t.top∧t.top≤IntKind.i64.wrap (t.bot-1))∧t.bot≤t.h
def tk5 (t:Toc) (ge gd _pe _ps:Int):Prop:=tk4 t ge gd _pe _ps∧_pe=0∧_ps=0∧(0≤t.modes∧t.modes≤2047)
theorem BN0 {t:Toc} {ge gd pe ps:Int} (h:tk2 t ge gd pe ps):tk2 t ge gd pe ps:=h
theorem BJ0 {t:Toc} {ge gd pe ps:Int} (h:tk3 t ge gd pe ps):tk2 t ge gd pe ps:=BN0 h.1
theorem BL5 {t:Toc} {ge gd pe ps:Int} (h:tk4 t ge gd pe ps):tk2 t ge gd pe ps:=BJ0 h.1
theorem CC9 {t:Toc} {ge gd pe ps:Int} (h:tk5 t ge gd pe ps):tk2 t ge gd pe ps:=BL5 h.1
def tkl (i:Nat) (t:Toc) (ge gd _pe _ps:Int):Prop:=tk5 t ge gd _pe _ps∧(i=0∨((1≤t.p0∧t.p0≤4)∧(1≤t.sp0∧t.sp0≤4)))∧(i≤1∨((1≤t.p1∧t.p1≤4)∧(1≤t.sp1∧t.sp1≤4)))
def Ak8 (t:Toc) (ge gd _pe _ps:Int):Prop:=tkl 2 t ge gd _pe _ps∧(0≤t.sh∧t.sh≤1)∧(0≤t.ssh∧t.ssh≤1)
def Ak3 (t:Toc) (ge gd _pe _ps:Int):Prop:=Ak8 t ge gd _pe _ps∧(0≤t.sr∧t.sr≤59)∧(0≤t.sc∧t.sc≤159)
def Ak1 (bX:Bool) (t:Toc) (ge gd _pe _ps:Int):Prop:=Ak3 t ge gd _pe _ps∧t.ti.size≤256∧bX=true
theorem BN1 {i:Nat} {t:Toc} {ge gd pe ps:Int} (h:tkl i t ge gd pe ps):tk2 t ge gd pe ps:=CC9 h.1
theorem A15 {t:Toc} {ge gd pe ps:Int} (h:Ak8 t ge gd pe ps):tk2 t ge gd pe ps:=BN1 h.1
theorem BW8 {t:Toc} {ge gd pe ps:Int} (h:Ak3 t ge gd pe ps):tk2 t ge gd pe ps:=A15 h.1
section
attribute [local irreducible] SW SL SQ AtQ SV SC BB LD PK Yields SO SOT SOA SY SP SPT SPA
theorem Bf4 (G:Ctx) (H:List Ent) (t:Toc) (C D:List Qd) (X:List (Rx Qd)) (ga:Option Addr) (gn gc:Nat) (oa:Option Addr) (on oc:Nat) (pa:Option Addr) (pn pc:Nat) [h1:RdC G H ga (qds C)] [h2:RdC G H oa (qds D)] [h3:RdC G H pa (X.map rxV)] (hr:RdX qds G H X) (hgn:gn=C.length) (hgc:gn≤gc) (hon:on=D.length) (hoc:on≤oc) (hpn:pn=X.length) (hb1:gn≤9223372036854775807) (hb2:on≤9223372036854775807) (hb3:pn≤9223372036854775807) (e:Int) (he:(e=0∧Ak1 (pastB X) t (gridE t.w t.h C) (gridE t.w2 t.h2 D) (if penB t.pf t.pr t.pb=true then 0 else 4) (if penB t.spf t.spr t.spb=true then 0 else 4))∨(e=4∧¬Ak1 (pastB X) t (gridE t.w t.h C) (gridE t.w2 t.h2 D) (if penB t.pf t.pr t.pb=true then 0 else 4) (if penB t.spf t.spr t.spb=true then 0 else 4))):
 SV Tryz.prog G 36 [.agg (tocC t ga gn gc oa on oc pa pn pc).toArray] H (.int .i64 e):=by
 have cC:=fun (H:List Ent) [RdC G H ga (qds C)]=>AV0 G H C t.w t.h ga gn gc rfl hgn hb1 hgc
 have cD:=fun (H:List Ent) [RdC G H oa (qds D)]=>AV0 G H D t.w2 t.h2 oa on oc rfl hon hb2 hoc
 have hge:gridE t.w t.h C≠0∨(1≤t.w∧t.w≤160∧1≤t.h∧t.h≤60):=by
  by_cases h:gridE t.w t.h C=0
  ·exact .inr (B12 h).1
  ·exact .inl h
 generalize gridE t.w t.h C=ge at *
 generalize gridE t.w2 t.h2 D=gd at *
 have cP:=fun (H:List Ent)=>AN8 G H t.pf t.pr t.pb
 generalize (if penB t.pf t.pr t.pb=true then (0:Int) else 4)=pe at *
 have cP2:=fun (H:List Ent)=>AN8 G H t.spf t.spr t.spb
 generalize (if penB t.spf t.spr t.spb=true then (0:Int) else 4)=ps at *
 have cK:=fun (H:List Ent) (p:Int)=>BO3 G H p
 have cW:=fun (H:List Ent) (n lo hi:Int)=>AT6 G H n lo hi
 have cX:=fun (H:List Ent) (_:RdC G H pa (X.map rxV)) (hr:RdX qds G H X)=>Bm7 G H X pa pn pc rfl hr hpn hb3
 generalize pastB X=bX at *
 unfold tocC
 refine P8 Tryz.func36 O O O O O ?_
 repeat' (first|(apply E8;first|(apply A8;refine A9 ?_)|(apply D5;refine D9 O O ?_)|(apply K6;refine L9 O O O O O O (fun _=>?_)))|(apply D6)|((fail_if_success (refine J5 (id:=1) ?_));apply A7)|(apply C9))
 rename_i b
 refine y5 (α:=Nat×Nat) (fun g=>[(1,.pointer (some ⟨b,0,none⟩)),(2,.int .i64 0),(3,.pointer (some ⟨g.1,0,none⟩)),(4,.pointer (some ⟨g.2,0,none⟩))])
  (fun g=> .blk g.1 29 [.int .i64 t.w,.int .i64 t.h,.slice ga gn gc]:: .blk g.2 29 [.int .i64 t.w2,.int .i64 t.h2,.slice oa on oc]:: .blk b 41 (tocC t ga gn gc oa on oc pa pn pc)::H) (fun _=>True) ?_ ?_
 ·repeat' (first|(apply E8;first|(apply A8;refine A9 ?_)|(apply H8;refine Q8 O O O O O O O O ?_)|(apply O6;refine Q4 O O O O (fun _=>?_)))|(apply Q0;refine N8 (k:=0) J3 ?_)|(apply U3;first|(refine L8 O ?_)|(refine O4 O O O O (by kernel_rfl) (by decide+kernel) (by decide+kernel) ?_;first|(apply R9;refine R6 O ?_;refine O9 O O ?_)|(apply M3;refine G9 (D8 O O) ?_))|(refine O5 O ?_)|(refine N9 (by decide+kernel) ?_)|(refine Q6 (by kernel_rfl) ?_))|(apply V3;first|(refine Q5 O)|(refine U1 (by decide+kernel) ?_)|(refine Q3 O ?_ ?_))|(refine J5 (id:=1) ?_;refine Z6 _ (fun _ hw=>hw) ?_))
  all_goals
   rename_i b1 b2
   first
    | (refine J6 (b1,b2) trivial ?_ ?_
       focus (repeat (first|exact Le.nil _|refine Le.cons O ?_))
       exact J3)
    | (refine J6 (b2,b1) trivial ?_ ?_
       focus (repeat (first|exact Le.nil _|refine Le.cons O ?_))
       exact J3)
 rintro ⟨b3,b4⟩-
 dsimp only
 repeat' (apply D6)
 refine y5 (α:=Bool) (fun f=>[(1,.pointer (some ⟨b,0,none⟩)),(2,.int .i64 0),(3,.pointer (some ⟨b3,0,none⟩)),(4,.pointer (some ⟨b4,0,none⟩)),(5,.bool f)]) (fun _=> .blk b3 29 [.int .i64 t.w,.int .i64 t.h,.slice ga gn gc]:: .blk b4 29 [.int .i64 t.w2,.int .i64 t.h2,.slice oa on oc]:: .blk b 41 (tocC t ga gn gc oa on oc pa pn pc)::H) (fun f=>f=true↔tk2 t ge gd pe ps) ?_ ?_
 ·unfold tocC
  repeat' (first|(apply E8;first|(apply A8;refine A9 ?_)|(apply C8;refine D7 O O ?_)|(apply E5;refine F7 O O O ?_;refine F9 O ?_)|(apply F5;refine F8 O O ?_;first|refine F4 O ?_ |refine M5 O ?_)|(apply D5;refine D9 O O ?_)|(apply I6;refine J4 O O ?_;first|(apply P7;refine P6 O ?_)|(apply M6;refine M7 O ?_))|(apply G6;refine G7 (D8 O O) O ?_)|(apply H5;first|refine H6 O O O (cC _) O O ?_ |refine H6 O O O (cD _) O O ?_)|(apply I5;refine J9 O O O O ?_;first|(apply I1)|(apply H7)|(apply E9<;>intro hq<;>(try (exfalso;omega)))))|(apply A7))
  all_goals
   apply J6
   case hs=>repeat (first|exact Le.nil _|refine Le.cons O ?_)
   case hH=>exact J3
   case hI=>
    unfold tk2
    try simp only[dbeq,decide_eq_true_eq,beq_iff_eq,Bool.false_eq_true,false_iff,true_iff,Bool.not_eq_true',Bool.not_true,Bool.not_false] at *
    omega
 intro f hf
 repeat' (apply D6)
 refine y5 (α:=Bool) (fun f=>[(1,.pointer (some ⟨b,0,none⟩)),(2,.int .i64 0),(3,.pointer (some ⟨b3,0,none⟩)),(4,.pointer (some ⟨b4,0,none⟩)),(5,.bool f)]) (fun _=> .blk b3 29 [.int .i64 t.w,.int .i64 t.h,.slice ga gn gc]:: .blk b4 29 [.int .i64 t.w2,.int .i64 t.h2,.slice oa on oc]:: .blk b 41 (tocC t ga gn gc oa on oc pa pn pc)::H) (fun f=>f=true↔tk3 t ge gd pe ps) ?_ ?_
 ·have hz2:tk2 t ge gd pe ps→ge=0∧1≤t.w∧t.w≤160∧1≤t.h∧t.h≤60:=fun h=>⟨(BN0 h).1,by have:=(BN0 h).1;omega⟩
  generalize hPP:tk2 t ge gd pe ps=Q at *
  unfold tocC
  cases hla:t.late
  all_goals
   cases f
   ·have hQ:¬Q:=fun h=>nomatch hf.2 h
    clear hz2
    repeat' (first|(apply E8;first|(apply A8;refine A9 ?_)|(apply C8;refine D7 O O ?_)|(apply D5;refine D9 O O ?_)|(apply I6;refine J4 O O ?_;apply M6;refine M7 O ?_)|(apply I5;first|(refine J9 O O O O ?_;apply H7)|refine o8 O O O O O O ?_))|(apply A7))
    all_goals
     apply J6
     case hs=>repeat (first|exact Le.nil _|refine Le.cons O ?_)
     case hH=>exact J3
     case hI=>
      unfold tk3
      rw[hPP]
      simp [hQ]
   ·have hQ:Q:=hf.1 rfl
    have hz:=hz2 hQ
    clear hz2
    repeat' (first|(apply E8;first|(apply A8;refine A9 ?_)|(apply C8;refine D7 O O ?_)|(apply E5;refine F7 O O O ?_;first|(apply U8;refine V4 ⟨by omega,by omega⟩ ?_)|refine F9 O ?_)|(apply F5;refine F8 O O ?_;refine F4 O ?_)|(apply D5;refine D9 O O ?_)|(apply I6;refine J4 O O ?_;first|(apply P7;refine P6 O ?_)|(apply M6;refine M7 O ?_))|(apply G6;refine G7 (D8 O O) O ?_)|(apply X5;refine Z9 (Z8 O O O) O ?_)|(apply H5;refine H6 O O O (cW _ _ _ _) O O ?_)|(apply I5;first|(refine J9 O O O O ?_;first|(apply I1)|(apply H7)|(apply d9)|(apply E9<;>intro hq<;>(try (exfalso;omega))))|refine o8 O O O O O O ?_))|(apply A7))
    all_goals
     apply J6
     case hs=>repeat (first|exact Le.nil _|refine Le.cons O ?_)
     case hH=>exact J3
     case hI=>
      unfold tk3
      rw[hPP]
      simp only[hQ,true_and]
      try simp only[hla,eq_self,reduceCtorEq,true_or,false_or,and_true,dbeq,decide_eq_true_eq,beq_iff_eq,Bool.false_eq_true,false_iff,true_iff,Bool.not_eq_true',Bool.not_true,Bool.not_false] at *
      (omega)
 intro f hf
 repeat' (apply D6)
 refine y5 (α:=Bool) (fun f=>[(1,.pointer (some ⟨b,0,none⟩)),(2,.int .i64 0),(3,.pointer (some ⟨b3,0,none⟩)),(4,.pointer (some ⟨b4,0,none⟩)),(5,.bool f)]) (fun _=> .blk b3 29 [.int .i64 t.w,.int .i64 t.h,.slice ga gn gc]:: .blk b4 29 [.int .i64 t.w2,.int .i64 t.h2,.slice oa on oc]:: .blk b 41 (tocC t ga gn gc oa on oc pa pn pc)::H) (fun f=>f=true↔tk4 t ge gd pe ps) ?_ ?_
 ·have hz2:tk3 t ge gd pe ps→ge=0∧1≤t.w∧t.w≤160∧1≤t.h∧t.h≤60:=fun h=>⟨(BJ0 h).1,by have:=(BJ0 h).1;omega⟩
  generalize hPP:tk3 t ge gd pe ps=Q at *
  unfold tocC
  cases f
  ·have hQ:¬Q:=fun h=>nomatch hf.2 h
   clear hz2
   repeat' (first|(apply E8;first|(apply A8;refine A9 ?_)|(apply C8;refine D7 O O ?_)|(apply D5;refine D9 O O ?_)|(apply I6;refine J4 O O ?_;apply M6;refine M7 O ?_)|(apply I5;refine J9 O O O O ?_;apply H7))|(apply A7))
   all_goals
    apply J6
    case hs=>repeat (first|exact Le.nil _|refine Le.cons O ?_)
    case hH=>exact J3
    case hI=>
     unfold tk4
     rw[hPP]
     simp [hQ]
  ·have hQ:Q:=hf.1 rfl
   have hz:=hz2 hQ
   clear hz2
   repeat' (first|(apply E8;first|(apply A8;refine A9 ?_)|(apply C8;refine D7 O O ?_)|(apply E5;refine F7 O O O ?_;first|(apply U8;refine F9 O ?_)|refine F9 O ?_)|(apply F5;refine F8 O O ?_;refine F4 O ?_)|(apply D5;refine D9 O O ?_)|(apply I6;refine J4 O O ?_;first|(apply P7;refine P6 O ?_)|(apply M6;refine M7 O ?_))|(apply G6;refine G7 (D8 O O) O ?_)|(apply H5;refine H6 O O O (cW _ _ _ _) O O ?_)|(apply I5;refine J9 O O O O ?_;first|(apply I1)|(apply H7)|(apply E9<;>intro hq<;>(try (exfalso;omega)))))|(apply A7))
   all_goals
    apply J6
    case hs=>repeat (first|exact Le.nil _|refine Le.cons O ?_)
    case hH=>exact J3
    case hI=>
     unfold tk4
     rw[hPP]
     simp only[hQ,true_and]
     try simp only[dbeq,decide_eq_true_eq,beq_iff_eq,Bool.false_eq_true,false_iff,true_iff,Bool.not_eq_true',Bool.not_true,Bool.not_false] at *
     (omega)
 intro f hf
 repeat' (apply D6)
 refine y5 (α:=Bool) (fun f=>[(1,.pointer (some ⟨b,0,none⟩)),(2,.int .i64 0),(3,.pointer (some ⟨b3,0,none⟩)),(4,.pointer (some ⟨b4,0,none⟩)),(5,.bool f)]) (fun _=> .blk b3 29 [.int .i64 t.w,.int .i64 t.h,.slice ga gn gc]:: .blk b4 29 [.int .i64 t.w2,.int .i64 t.h2,.slice oa on oc]:: .blk b 41 (tocC t ga gn gc oa on oc pa pn pc)::H) (fun f=>f=true↔tk5 t ge gd pe ps) ?_ ?_
 ·have hz2:tk4 t ge gd pe ps→ge=0∧1≤t.w∧t.w≤160∧1≤t.h∧t.h≤60:=fun h=>⟨(BL5 h).1,by have:=(BL5 h).1;omega⟩
  generalize hPP:tk4 t ge gd pe ps=Q at *
  unfold tocC
  cases f
  ·have hQ:¬Q:=fun h=>nomatch hf.2 h
   clear hz2
   repeat' (first|(apply E8;first|(apply A8;refine A9 ?_)|(apply C8;refine D7 O O ?_)|(apply D5;refine D9 O O ?_)|(apply I6;refine J4 O O ?_;apply M6;refine M7 O ?_)|(apply I5;refine J9 O O O O ?_;apply H7))|(apply A7))
   all_goals
    apply J6
    case hs=>repeat (first|exact Le.nil _|refine Le.cons O ?_)
    case hH=>exact J3
    case hI=>
     unfold tk5
     rw[hPP]
     simp [hQ]
  ·have hQ:Q:=hf.1 rfl
   have hz:=hz2 hQ
   clear hz2
   repeat' (first|(apply E8;first|(apply A8;refine A9 ?_)|(apply C8;refine D7 O O ?_)|(apply E5;refine F7 O O O ?_;refine F9 O ?_)|(apply F5;refine F8 O O ?_;first|refine F4 O ?_ |refine O9 O O ?_)|(apply D5;refine D9 O O ?_)|(apply I6;refine J4 O O ?_;first|(apply P7;refine P6 O ?_)|(apply M6;refine M7 O ?_))|(apply G6;first|refine G7 (D8 O O) O ?_ |refine G7 (AB5 O O) O ?_)|(apply H5;first|refine H6 O O O (cW _ _ _ _) O O ?_ |refine H6 O O O (cP _) O O ?_ |refine H6 O O O (cP2 _) O O ?_)|(apply I5;refine J9 O O O O ?_;first|(apply I1)|(apply H7)|(apply E9<;>intro hq<;>(try (exfalso;omega)))))|(apply A7))
   all_goals
    apply J6
    case hs=>repeat (first|exact Le.nil _|refine Le.cons O ?_)
    case hH=>exact J3
    case hI=>
     unfold tk5
     rw[hPP]
     simp only[hQ,true_and]
     try simp only[dbeq,decide_eq_true_eq,beq_iff_eq,Bool.false_eq_true,false_iff,true_iff,Bool.not_eq_true',Bool.not_true,Bool.not_false] at *
     (omega)
 intro f hf
 repeat' (first|(apply E8;first|(apply A8;refine A9 ?_)|(apply C8;refine D7 O O ?_))|(apply D6)|(apply F3)|((fail_if_success (refine J5 (id:=7) ?_));apply A7)|(apply C9))
 refine R7 (α:=Nat×Bool) (fun g=>[(1,.pointer (some ⟨b,0,none⟩)),(2,.int .i64 0),(3,.pointer (some ⟨b3,0,none⟩)),(4,.pointer (some ⟨b4,0,none⟩)),(5,.bool g.2),(98,.int .i64 g.1)]) (fun _=> .blk b3 29 [.int .i64 t.w,.int .i64 t.h,.slice ga gn gc]:: .blk b4 29 [.int .i64 t.w2,.int .i64 t.h2,.slice oa on oc]:: .blk b 41 (tocC t ga gn gc oa on oc pa pn pc)::H) (fun g=>g.1≤2∧(g.2=true↔tkl g.1 t ge gd pe ps)) (fun g=>2-g.1) (0,f) ⟨Nat.zero_le _,by dsimp only;rw[hf];unfold tkl;simp⟩ Q7 J3 ?_
 clear hf
 rintro ⟨i,f⟩ ⟨hi,hf⟩
 dsimp only at hi hf ⊢
 by_cases hlt:(i:Int)<2
 ·unfold tocC
  obtain rfl|rfl:i=0∨i=1:=by omega
  ·generalize hPP:tkl 0 t ge gd pe ps=Q at *
   have hst:tkl (0+1) t ge gd pe ps↔(Q∧((1≤t.p0∧t.p0≤4)∧(1≤t.sp0∧t.sp0≤4))):=by
    subst hPP
    unfold tkl
    generalize tk5 t ge gd pe ps=R
    constructor
    ·rintro ⟨h1,h2,h3⟩
     exact⟨⟨h1,by omega,by omega⟩,by omega⟩
    ·rintro ⟨⟨h1,h2,h3⟩,h4⟩
     exact⟨h1,by omega,by omega⟩
   cases f
   ·have hQ:¬Q:=fun h=>nomatch hf.2 h
    repeat' (first|(apply E8;first|(apply A8;refine A9 ?_)|(apply C8;refine D7 O O ?_)|(apply E5;refine F7 O O O ?_;first|(apply K9;refine L6 ⟨by omega,by omega⟩ ?_)|refine F9 O ?_)|(apply D5;refine D9 O O ?_)|(apply I6;refine J4 O O ?_;apply M6;refine M7 O ?_)|(apply I5;refine J9 O O O O ?_;apply H7))|(apply D6)|(apply G8)|(apply F3)|(apply A7)|(refine G5 O ?_;apply I1)|(apply C9)|(apply H9))
    all_goals first
     | (refine J6 ((0:Nat)+1,false) ?_ ?_ ?_
        rotate_left 1
        focus (repeat (first|exact Le.nil _|refine Le.cons O ?_))
        exact J3
        refine⟨⟨by dsimp only;omega,?_⟩,by dsimp only;omega⟩
        dsimp only
        rw[hst]
        simp [hQ])
   ·have hQ:Q:=hf.1 rfl
    repeat' (first|(apply E8;first|(apply A8;refine A9 ?_)|(apply C8;refine D7 O O ?_)|(apply E5;refine F7 O O O ?_;first|(apply K9;refine L6 ⟨by omega,by omega⟩ ?_)|refine F9 O ?_)|(apply F5;refine F8 O O ?_;refine F4 O ?_)|(apply D5;refine D9 O O ?_)|(apply I6;refine J4 O O ?_;first|(apply P7;refine P6 O ?_)|(apply M6;refine M7 O ?_))|(apply G6;first|refine G7 (D8 O O) O ?_ |refine G7 (AB5 O O) O ?_)|(apply M4;refine M8 (l7 O O O (by omega) (by omega)) O ?_)|(apply H5;refine H6 O O O (cK _ _) O O ?_)|(apply I5;refine J9 O O O O ?_;first|(apply I1)|(apply H7)|(apply E9<;>intro hq<;>(try (exfalso;omega)))))|(apply D6)|(apply G8)|(apply F3)|(apply A7)|(refine G5 O ?_;apply I1)|(apply C9)|(apply H9))
    ·refine J6 ((0:Nat)+1,decide (1≤t.sp0∧t.sp0≤4)) ?_ ?_ ?_
     rotate_left 1
     focus (repeat (first|exact Le.nil _|refine Le.cons O ?_))
     exact J3
     refine⟨⟨by dsimp only;omega,?_⟩,by dsimp only;omega⟩
     dsimp only
     rw[hst]
     simp only[hQ,true_and,decide_eq_true_eq,Bool.false_eq_true,false_iff]
     omega
    ·refine J6 ((0:Nat)+1,false) ?_ ?_ ?_
     rotate_left 1
     focus (repeat (first|exact Le.nil _|refine Le.cons O ?_))
     exact J3
     refine⟨⟨by dsimp only;omega,?_⟩,by dsimp only;omega⟩
     dsimp only
     rw[hst]
     simp only[hQ,true_and,decide_eq_true_eq,Bool.false_eq_true,false_iff]
     omega
  ·generalize hPP:tkl 1 t ge gd pe ps=Q at *
   have hst:tkl (1+1) t ge gd pe ps↔(Q∧((1≤t.p1∧t.p1≤4)∧(1≤t.sp1∧t.sp1≤4))):=by
    subst hPP
    unfold tkl
    generalize tk5 t ge gd pe ps=R
    constructor
    ·rintro ⟨h1,h2,h3⟩
     exact⟨⟨h1,by omega,by omega⟩,by omega⟩
    ·rintro ⟨⟨h1,h2,h3⟩,h4⟩
     exact⟨h1,by omega,by omega⟩
   cases f
   ·have hQ:¬Q:=fun h=>nomatch hf.2 h
    repeat' (first|(apply E8;first|(apply A8;refine A9 ?_)|(apply C8;refine D7 O O ?_)|(apply E5;refine F7 O O O ?_;first|(apply K9;refine L6 ⟨by omega,by omega⟩ ?_)|refine F9 O ?_)|(apply D5;refine D9 O O ?_)|(apply I6;refine J4 O O ?_;apply M6;refine M7 O ?_)|(apply I5;refine J9 O O O O ?_;apply H7))|(apply D6)|(apply G8)|(apply F3)|(apply A7)|(refine G5 O ?_;apply I1)|(apply C9)|(apply H9))
    all_goals first
     | (refine J6 ((1:Nat)+1,false) ?_ ?_ ?_
        rotate_left 1
        focus (repeat (first|exact Le.nil _|refine Le.cons O ?_))
        exact J3
        refine⟨⟨by dsimp only;omega,?_⟩,by dsimp only;omega⟩
        dsimp only
        rw[hst]
        simp [hQ])
   ·have hQ:Q:=hf.1 rfl
    repeat' (first|(apply E8;first|(apply A8;refine A9 ?_)|(apply C8;refine D7 O O ?_)|(apply E5;refine F7 O O O ?_;first|(apply K9;refine L6 ⟨by omega,by omega⟩ ?_)|refine F9 O ?_)|(apply F5;refine F8 O O ?_;refine F4 O ?_)|(apply D5;refine D9 O O ?_)|(apply I6;refine J4 O O ?_;first|(apply P7;refine P6 O ?_)|(apply M6;refine M7 O ?_))|(apply G6;first|refine G7 (D8 O O) O ?_ |refine G7 (AB5 O O) O ?_)|(apply M4;refine M8 (l7 O O O (by omega) (by omega)) O ?_)|(apply H5;refine H6 O O O (cK _ _) O O ?_)|(apply I5;refine J9 O O O O ?_;first|(apply I1)|(apply H7)|(apply E9<;>intro hq<;>(try (exfalso;omega)))))|(apply D6)|(apply G8)|(apply F3)|(apply A7)|(refine G5 O ?_;apply I1)|(apply C9)|(apply H9))
    ·refine J6 ((1:Nat)+1,decide (1≤t.sp1∧t.sp1≤4)) ?_ ?_ ?_
     rotate_left 1
     focus (repeat (first|exact Le.nil _|refine Le.cons O ?_))
     exact J3
     refine⟨⟨by dsimp only;omega,?_⟩,by dsimp only;omega⟩
     dsimp only
     rw[hst]
     simp only[hQ,true_and,decide_eq_true_eq,Bool.false_eq_true,false_iff]
     omega
    ·refine J6 ((1:Nat)+1,false) ?_ ?_ ?_
     rotate_left 1
     focus (repeat (first|exact Le.nil _|refine Le.cons O ?_))
     exact J3
     refine⟨⟨by dsimp only;omega,?_⟩,by dsimp only;omega⟩
     dsimp only
     rw[hst]
     simp only[hQ,true_and,decide_eq_true_eq,Bool.false_eq_true,false_iff]
     omega
 obtain rfl:i=2:=by omega
 repeat' (first|(apply E8;first|(apply A8;refine A9 ?_)|(apply E5;refine F7 O O O ?_;refine F9 O ?_))|(apply D6)|(apply O7)|((fail_if_success (refine J5 (id:=11) ?_));apply A7)|(refine G5 O ?_;apply H7)|(apply C9)|(apply K3)|(apply K4))
 refine y5 (α:=Bool) (fun f=>[(1,.pointer (some ⟨b,0,none⟩)),(2,.int .i64 0),(3,.pointer (some ⟨b3,0,none⟩)),(4,.pointer (some ⟨b4,0,none⟩)),(5,.bool f)]) (fun _=> .blk b3 29 [.int .i64 t.w,.int .i64 t.h,.slice ga gn gc]:: .blk b4 29 [.int .i64 t.w2,.int .i64 t.h2,.slice oa on oc]:: .blk b 41 (tocC t ga gn gc oa on oc pa pn pc)::H) (fun f=>f=true↔Ak8 t ge gd pe ps) ?_ ?_
 ·have hz2:tkl 2 t ge gd pe ps→ge=0∧1≤t.w∧t.w≤160∧1≤t.h∧t.h≤60:=fun h=>⟨(BN1 h).1,by have:=(BN1 h).1;omega⟩
  generalize hPP:tkl 2 t ge gd pe ps=Q at *
  unfold tocC
  cases f
  ·have hQ:¬Q:=fun h=>nomatch hf.2 h
   clear hz2
   repeat' (first|(apply E8;first|(apply A8;refine A9 ?_)|(apply C8;refine D7 O O ?_)|(apply D5;refine D9 O O ?_)|(apply I6;refine J4 O O ?_;apply M6;refine M7 O ?_)|(apply I5;refine J9 O O O O ?_;apply H7))|(apply A7))
   all_goals
    apply J6
    case hs=>repeat (first|exact Le.nil _|refine Le.cons O ?_)
    case hH=>exact J3
    case hI=>
     unfold Ak8
     rw[hPP]
     simp [hQ]
  ·have hQ:Q:=hf.1 rfl
   have hz:=hz2 hQ
   clear hz2
   repeat' (first|(apply E8;first|(apply A8;refine A9 ?_)|(apply C8;refine D7 O O ?_)|(apply F5;refine F8 O O ?_;refine F4 O ?_)|(apply D5;refine D9 O O ?_)|(apply I6;refine J4 O O ?_;first|(apply P7;refine P6 O ?_)|(apply M6;refine M7 O ?_))|(apply G6;first|refine G7 (D8 O O) O ?_ |refine G7 (AB5 O O) O ?_)|(apply H5;refine H6 O O O (cW _ _ _ _) O O ?_)|(apply I5;refine J9 O O O O ?_;first|(apply I1)|(apply H7)|(apply E9<;>intro hq<;>(try (exfalso;omega)))))|(apply A7))
   all_goals
    apply J6
    case hs=>repeat (first|exact Le.nil _|refine Le.cons O ?_)
    case hH=>exact J3
    case hI=>
     unfold Ak8
     rw[hPP]
     simp only[hQ,true_and]
     try simp only[dbeq,decide_eq_true_eq,beq_iff_eq,Bool.false_eq_true,false_iff,true_iff,Bool.not_eq_true',Bool.not_true,Bool.not_false] at *
     (omega)
 intro f hf
 repeat' (apply D6)
 refine y5 (α:=Bool) (fun f=>[(1,.pointer (some ⟨b,0,none⟩)),(2,.int .i64 0),(3,.pointer (some ⟨b3,0,none⟩)),(4,.pointer (some ⟨b4,0,none⟩)),(5,.bool f)]) (fun _=> .blk b3 29 [.int .i64 t.w,.int .i64 t.h,.slice ga gn gc]:: .blk b4 29 [.int .i64 t.w2,.int .i64 t.h2,.slice oa on oc]:: .blk b 41 (tocC t ga gn gc oa on oc pa pn pc)::H) (fun f=>f=true↔Ak3 t ge gd pe ps) ?_ ?_
 ·have hz2:Ak8 t ge gd pe ps→ge=0∧1≤t.w∧t.w≤160∧1≤t.h∧t.h≤60:=fun h=>⟨(A15 h).1,by have:=(A15 h).1;omega⟩
  generalize hPP:Ak8 t ge gd pe ps=Q at *
  unfold tocC
  cases f
  ·have hQ:¬Q:=fun h=>nomatch hf.2 h
   clear hz2
   repeat' (first|(apply E8;first|(apply A8;refine A9 ?_)|(apply C8;refine D7 O O ?_)|(apply D5;refine D9 O O ?_)|(apply I6;refine J4 O O ?_;apply M6;refine M7 O ?_)|(apply I5;refine J9 O O O O ?_;apply H7))|(apply A7))
   all_goals
    apply J6
    case hs=>repeat (first|exact Le.nil _|refine Le.cons O ?_)
    case hH=>exact J3
    case hI=>
     unfold Ak3
     rw[hPP]
     simp [hQ]
  ·have hQ:Q:=hf.1 rfl
   have hz:=hz2 hQ
   clear hz2
   repeat' (first|(apply E8;first|(apply A8;refine A9 ?_)|(apply C8;refine D7 O O ?_)|(apply F5;refine F8 O O ?_;refine F4 O ?_)|(apply D5;refine D9 O O ?_)|(apply I6;refine J4 O O ?_;first|(apply P7;refine P6 O ?_)|(apply M6;refine M7 O ?_))|(apply G6;first|refine G7 (D8 O O) O ?_ |refine G7 (AB5 O O) O ?_)|(apply H5;refine H6 O O O (cW _ _ _ _) O O ?_)|(apply I5;refine J9 O O O O ?_;first|(apply I1)|(apply H7)|(apply E9<;>intro hq<;>(try (exfalso;omega)))))|(apply A7))
   all_goals
    apply J6
    case hs=>repeat (first|exact Le.nil _|refine Le.cons O ?_)
    case hH=>exact J3
    case hI=>
     unfold Ak3
     rw[hPP]
     simp only[hQ,true_and]
     try simp only[dbeq,decide_eq_true_eq,beq_iff_eq,Bool.false_eq_true,false_iff,true_iff,Bool.not_eq_true',Bool.not_true,Bool.not_false] at *
     (omega)
 intro f hf
 repeat' (apply D6)
 refine y5 (α:=Bool) (fun f=>[(1,.pointer (some ⟨b,0,none⟩)),(2,.int .i64 0),(3,.pointer (some ⟨b3,0,none⟩)),(4,.pointer (some ⟨b4,0,none⟩)),(5,.bool f)]) (fun _=> .blk b3 29 [.int .i64 t.w,.int .i64 t.h,.slice ga gn gc]:: .blk b4 29 [.int .i64 t.w2,.int .i64 t.h2,.slice oa on oc]:: .blk b 41 (tocC t ga gn gc oa on oc pa pn pc)::H) (fun f=>f=true↔Ak1 bX t ge gd pe ps) ?_ ?_
 ·have hz2:Ak3 t ge gd pe ps→ge=0∧1≤t.w∧t.w≤160∧1≤t.h∧t.h≤60:=fun h=>⟨(BW8 h).1,by have:=(BW8 h).1;omega⟩
  generalize hPP:Ak3 t ge gd pe ps=Q at *
  unfold tocC
  cases bX
  all_goals
   cases f
   ·have hQ:¬Q:=fun h=>nomatch hf.2 h
    clear hz2
    repeat' (first|(apply E8;first|(apply A8;refine A9 ?_)|(apply C8;refine D7 O O ?_)|(apply D5;refine D9 O O ?_)|(apply I6;refine J4 O O ?_;apply M6;refine M7 O ?_)|(apply I5;refine J9 O O O O ?_;apply H7))|(apply A7))
    all_goals
     apply J6
     case hs=>repeat (first|exact Le.nil _|refine Le.cons O ?_)
     case hH=>exact J3
     case hI=>
      unfold Ak1
      rw[hPP]
      simp [hQ]
   ·have hQ:Q:=hf.1 rfl
    have hz:=hz2 hQ
    clear hz2
    repeat' (first|(apply E8;first|(apply A8;refine A9 ?_)|(apply C8;refine D7 O O ?_)|(apply E5;refine F7 O O O ?_;refine F9 O ?_)|(apply F5;refine F8 O O ?_;refine F4 O ?_)|(apply D5;refine D9 O O ?_)|(apply I6;refine J4 O O ?_;first|(apply P7;refine P6 O ?_)|(apply M6;refine M7 O ?_))|(apply G6;refine G7 (D8 O O) O ?_)|(apply H5;refine H6 O O O (cX _ inferInstance hr.cons.cons.cons) O O ?_)|(apply K5;refine s_call (U2 O O) O ?_)|(apply I5;refine J9 O O O O ?_;first|(apply I1)|(apply H7)|(apply E9<;>intro hq<;>(try (exfalso;omega)))))|(apply A7))
    all_goals
     apply J6
     case hs=>repeat (first|exact Le.nil _|refine Le.cons O ?_)
     case hH=>exact J3
     case hI=>
      unfold Ak1
      rw[hPP]
      simp only[hQ,true_and]
      try simp only[eq_self,reduceCtorEq,and_true,and_false,dbeq,decide_eq_true_eq,beq_iff_eq,Bool.false_eq_true,false_iff,true_iff,Bool.not_eq_true',Bool.not_true,Bool.not_false] at *
      (first|done|omega)
 intro f hf
 cases f
 ·have hn:¬Ak1 bX t ge gd pe ps:=fun h=>nomatch hf.2 h
  obtain rfl:e=4:=he.elim (fun h=>absurd h.2 hn) (fun h=>h.1)
  repeat' (first|(apply E8;first|(apply A8;refine A9 ?_)|(apply C8;refine D7 O O ?_)|(apply D5;refine D9 O O ?_)|(apply X5;refine Z9 (Z8 O O O) O ?_))|(apply D6)|(apply I4)|(apply A7)|(refine G5 O ?_;apply I1)|(apply C9)|(apply J8))
  all_goals
   refine N7 (by (exact .inr O)) O O0 ?_
   rfl
 ·have hy:Ak1 bX t ge gd pe ps:=hf.1 rfl
  obtain rfl:e=0:=he.elim (fun h=>h.1) (fun h=>absurd hy h.2)
  repeat' (first|(apply E8;first|(apply A8;refine A9 ?_)|(apply C8;refine D7 O O ?_)|(apply D5;refine D9 O O ?_)|(apply X5;refine Z9 (Z8 O O O) O ?_))|(apply D6)|(apply G8)|(apply I4)|(apply A7)|(refine G5 O ?_;apply H7)|(apply C9))
  all_goals
   refine N7 (by (exact .inr O)) O O0 ?_
   rfl
end
end Go.Proofs.YtmmnimagbnlcmaaGreatDoor
