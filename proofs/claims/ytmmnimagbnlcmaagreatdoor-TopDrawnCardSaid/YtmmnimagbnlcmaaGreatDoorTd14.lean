/- Texts of this claim, merged: Sgr2 Sgr3 Sgr4 Drw2 Drw3 Drw4. -/
import Derived.Test.YtmmnimagbnlcmaaGreatDoorTd13
import Derived.WalkKit
import Derived.WalkSpells
import Derived.WalkLawsBesides
import Derived.Handy
import Derived.Lib.Hide
import Derived.Laws.BitsAllLaws
import Derived.Deep.MidRow
import Derived.Deep.WholeRow
import Derived.BigQuiet
import Derived.Laws.CopyOwn
import Derived.Deep.QuietTactic
import Derived.Laws.AppendOwnNone
import Derived.Laws.MakeOwn
import Derived.Laws.IdiomStrings
import Derived.OrdersHeld
import Derived.Lib.SliceRun
import Derived.ChangeKeysEq
import Derived.Laws.CopyRow
import Derived.Test.YtmmnimagbnlcmaaGreatDoorRows
import Derived.StillTailTactics
import Derived.RegionTactic
import Derived.ChangeAlike
import Derived.Lib.AppendStr
import Derived.ArgAppend
import Derived.Laws.RangeAny
import Derived.Maps.RangeRun
import Derived.Lib.Replace
import Derived.Lib.Join
import Derived.Lib.IndexLaws
import Derived.Lib.IndexMore
import Derived.Lib.SplitLaws
import Derived.Shelf.Strings.Builder1
import Derived.Shelf.Strings.Builder2
import Derived.Shelf.Strings.OnBuilder
import Derived.Shelf.Strings.Trim
import Derived.Shelf.Small.Utf8
import Derived.Shelf.Small.Strs
import Derived.Shelf.Strings.BuilderF
import Derived.Shelf.Strconv.Itoa0
import Derived.Shelf.Strconv.Itoa1
import Derived.Shelf.LaysM
import Derived.Shelf.Strconv.Itoa2
import Derived.Shelf.Strconv.Itoa3
import Derived.Shelf.Strings.Search1
import Derived.Shelf.Strings.Search2
import Derived.Shelf.Strings.Search3
import Derived.Shelf.Strings.Count
import Derived.Shelf.Strings.Shaped
import Derived.Shelf.Strings.LastIndex
import Derived.Shelf.Strings.Prefix
import Derived.Shelf.Strings.Split
import Derived.Shelf.Strings.Replace
import Derived.Shelf.Strings.SplitShaped
import Derived.Shelf.Strings.Runes
import Derived.Shelf.Strings.AsciiSet
import Derived.Shelf.Bits.Mul64
import Derived.Shelf.Strings.Repeat
import Derived.Shelf.Unicode.DecodeSlow
import Derived.Shelf.Unicode.DecodeAny
import Derived.Shelf.Unicode.ValidAny
import Derived.Test.YtmmnimagbnlcmaaGreatDoorProg
import Derived.Lib.Bytealg
namespace Go.Proofs.YtmmnimagbnlcmaaGreatDoor
open Go Go.RowKit Go.Fw Go.Sx
set_option maxRecDepth 100000
section
set_option maxHeartbeats 1000000
attribute [local irreducible] SW SL SQ AtQ SV SC BB LD PK Yields SO SOT SOA SY
def AD3 (x:Int):Bool:=decide (x< -1∨16383<x)
def bigB (x:Int):Bool:=decide (255<x)
theorem BY0 (G:Ctx) (H:List Ent) (x:Int):SV Tryz.prog G 255 [.int .i64 x] H (.bool (AD3 x)):=by
  unfold AD3
  refine M5 Tryz.func255 rfl rfl rfl rfl rfl ?_
  repeat' (first|(apply F3;first|(apply C8;refine A8 ?_)|(apply C9;refine D8 rfl rfl ?_)|(apply E5;refine F5 rfl rfl rfl ?_;refine F7 rfl ?_)|(apply D6;refine D9 rfl rfl ?_)|(apply I6;refine I9 rfl rfl ?_;first|(apply Q9;refine Q8 rfl ?_)|(apply O1;refine O3 rfl ?_))|(apply I1;refine J9 rfl rfl rfl rfl ?_;first|(apply I7)|(apply X9)|(apply O8<;>intro hq<;>(try (exfalso;omega)))))|(apply D7)|(apply H7)|(apply A7)|(apply D5))
  all_goals (refine M3 (by (exact .inr rfl)) rfl N7 ?_;first|exact Bg2 (by omega)|exact Aj1 (by omega))
theorem Ar8 (G:Ctx) (H:List Ent) (x:Int):SV Tryz.prog G 271 [.int .i64 x] H (.bool (bigB x)):=by
  unfold bigB
  refine M5 Tryz.func271 rfl rfl rfl rfl rfl ?_
  repeat' (first|(apply F3;first|(apply C8;refine A8 ?_)|(apply C9;refine D8 rfl rfl ?_)|(apply E5;refine F5 rfl rfl rfl ?_;refine F7 rfl ?_)|(apply D6;refine D9 rfl rfl ?_))|(apply D7)|(apply H7)|(apply A7)|(apply D5))
  all_goals (refine M3 (by (exact .inr rfl)) rfl N7 ?_;exact Aj1 (by omega))
theorem CA9 (p:Int→Bool):∀xs:List Int,4≤xs.length→((xs.drop 1).take 3).any p=(p (xs.getD 1 0)||(p (xs.getD 2 0)||p (xs.getD 3 0)))
  | x0::x1::x2::x3::r,_=>by simp
theorem A98 (G:Ctx) (H:List Ent) (xs:List Int) {vs:List Value} (a:Option Addr) (n c:Nat) [h1:RdC G H a vs] (hv:vs=ints xs) (hn:n=xs.length) (hm:xs.length≤1000) (hc:n≤c) (hx:∀x∈xs,0≤x∧x≤16383):SV Tryz.prog G 257 [.slice a n c] H (.tuple #[.int .i64 (extL xs).1,.int .i64 (extL xs).2]):=by
  subst hv
  have hix:∀k:Nat,k<n→(ints xs)[(k:Int).toNat * 1]? =some (.int .i64 (xs.getD k 0)):=fun k hk=>ints_at xs k (by rw[←hn];exact hk)
  have hlx:(ints xs).length=n * 1:=by simp [ints,hn]
  have hb:=fun k (hk:k<n)=>hx _ (Ai7 (xs:=xs) (j:=k) (by rw[←hn];exact hk))
  have HB:=Lib.hid hb
  clear hb
  unfold extL
  have cB:=fun H x=>Ar8 G H x
  by_cases h2:2≤xs.length∧xs.getD 0 0=5∧xs.getD 1 0<256
  · rw[if_pos h2]
    obtain⟨l2,e5,e6⟩:=h2
    have hx0:=hix 0 (by omega)
    have hx1:=hix 1 (by omega)
    have hb1:=HB.out 1 (by omega)
    rw[e5] at hx0
    have cB1:=fun H=>cB H (xs.getD 1 0)
    rw[show bigB (xs.getD 1 0)=false from by unfold bigB;exact decide_eq_false (by omega)] at cB1
    rw[show max (xs.getD 1 0) 0=xs.getD 1 0 from by omega]
    clear HB hix hx hm
    generalize xs.getD 1 0=x1 at *
    refine M5 Tryz.func257 rfl rfl rfl rfl rfl ?_
    repeat' (first|(apply F3;first|(apply C8;refine A8 ?_)|(apply C9;refine D8 rfl rfl ?_)|(apply E5;refine F5 rfl rfl rfl ?_;first|(apply M0;refine L9 ⟨by omega,by omega⟩ ?_)|refine F7 rfl ?_)|(apply F4;refine F8 rfl rfl ?_;first|refine X5 hx0 ?_ |refine X5 hx1 ?_)|(apply D6;refine D9 rfl rfl ?_)|(apply I6;refine I9 rfl rfl ?_;apply Q9;refine Q8 rfl ?_)|(apply Y0;refine Z8 (Z7 rfl rfl rfl) rfl ?_)|(apply M4;refine N9 (K6 rfl rfl rfl hlx (by omega) (by omega)) rfl ?_)|(apply J5;refine s_call (Q5 rfl rfl) rfl ?_)|(apply I1;refine J9 rfl rfl rfl rfl ?_;first|(apply I7)|(apply E9<;>intro hq<;>(try (exfalso;omega))))|(refine AJ5 rfl rfl rfl rfl (cB1 _) rfl rfl ?_))|(apply D7)|(apply H7)|(apply F6)|(apply A7)|(refine G5 rfl ?_;apply I7)|(apply D5)|(apply J4)|(apply U1))
    all_goals (refine M3 (by (exact .inr rfl)) rfl N7 ?_;rfl)
  · rw[if_neg h2]
    have cC:=fun (H:List Ent) (a':Option Addr) (c':Nat) {vs:List Value} [RdC G H a' vs] (hv:vs=ints ((xs.drop 1).take 3)) (h4:4≤xs.length)=>AR7 G H 271 bigB ((xs.drop 1).take 3) a' 3 c' hv (by simp;omega) (by simp [maxLen];omega) (fun H x _=>Ar8 G H x)
    by_cases h4:4≤xs.length∧xs.getD 0 0=2∧(xs.getD 1 0<256∧xs.getD 2 0<256∧xs.getD 3 0<256)
    · rw[if_pos h4]
      obtain⟨l4,e2,e6,e7,e8⟩:=h4
      have hx0:=hix 0 (by omega)
      have hx1:=hix 1 (by omega)
      have hx2:=hix 2 (by omega)
      have hx3:=hix 3 (by omega)
      have hb1:=HB.out 1 (by omega)
      have hb2:=HB.out 2 (by omega)
      have hb3:=HB.out 3 (by omega)
      rw[e2] at hx0
      have ha:((xs.drop 1).take 3).any bigB=false:=by
        rw[CA9 bigB xs l4]
        unfold bigB
        rw[decide_eq_false (by omega),decide_eq_false (by omega),decide_eq_false (by omega)]
        rfl
      have cC:=fun H a' c' {vs} [RdC G H a' vs] (hv:vs=ints ((xs.drop 1).take 3))=>cC H a' c' hv l4
      rw[ha] at cC
      have hpc:=Aa8 xs 1 3 1 4 rfl rfl
      have er:16777216+65536 * max (xs.getD 1 0) 0+256 * max (xs.getD 2 0) 0+max (xs.getD 3 0) 0=16777216+xs.getD 1 0 * 65536+xs.getD 2 0 * 256+xs.getD 3 0:=by omega
      rw[er]
      clear HB hix hx hm er ha h2
      generalize xs.getD 1 0=x1 at *
      generalize xs.getD 2 0=x2 at *
      generalize xs.getD 3 0=x3 at *
      refine M5 Tryz.func257 rfl rfl rfl rfl rfl ?_
      repeat' (first|(apply F3;first|(apply C8;refine A8 ?_)|(apply C9;refine D8 rfl rfl ?_)|(apply E5;refine F5 rfl rfl rfl ?_;refine F7 rfl ?_)|(apply F4;refine F8 rfl rfl ?_;refine X5 hx0 ?_)|(apply D6;refine D9 rfl rfl ?_)|(apply I6;refine I9 rfl rfl ?_;first|(apply Q9;refine Q8 rfl ?_)|(apply O1;refine O3 rfl ?_))|(apply Y0;refine Z8 (Z7 rfl rfl rfl) rfl ?_)|(apply M4;refine N9 (K6 rfl rfl rfl hlx (by omega) (by omega)) rfl ?_)|(apply H6;refine F9 rfl rfl rfl (cC _ _ _ hpc) rfl rfl ?_)|(apply J5;refine s_call (Q5 rfl rfl) rfl ?_)|(apply o7;refine AD6 (Hr:=H) rfl rfl rfl rfl rfl RdC.here hlx (by omega) (by omega) (by omega) (by omega) rfl rfl (fun _ _=>?_))|(apply I1;refine J9 rfl rfl rfl rfl ?_;first|(apply I7)|(apply I5)|(apply E9<;>intro hq<;>(try (exfalso;omega)))))|(apply AN1;first|(apply AF4;refine AF2 ?_)|(apply AE3;refine AG6 rfl rfl ?_)|(apply AG3;refine AK5 rfl rfl rfl ?_;first|(refine Bz9 rfl rfl rfl ⟨by omega,by omega⟩ ?_)|(apply M0;refine L9 ⟨by omega,by omega⟩ ?_))|(apply AE1;refine AE9 rfl rfl ?_;first|refine X5 hx1 ?_ |refine X5 hx2 ?_ |refine X5 hx3 ?_)|(apply AG4;refine AK1 rfl rfl ?_)|(apply AK0;refine AH6 (K6 rfl rfl rfl hlx (by omega) (by omega)) rfl ?_))|(apply D7)|(apply H7)|(apply F6)|(apply A7)|(refine G5 rfl ?_;first|(apply I7)|(apply I5))|(apply D5)|(apply J4)|(apply U1)|refine AC9 (by kernel_rfl) ?_)
      all_goals (refine M3 (by (exact .inr rfl)) rfl N7 ?_;rfl)
    · rw[if_neg h4]
      have hcs:n<2∨(2≤n∧xs.getD 0 0=5∧bigB (xs.getD 1 0)=true)∨(2≤n∧n<4∧¬xs.getD 0 0=5)∨(4≤n∧¬xs.getD 0 0=5∧¬xs.getD 0 0=2)∨(4≤n∧xs.getD 0 0=2∧((xs.drop 1).take 3).any bigB=true):=by
        rw[←hn] at h2 h4
        by_cases a1:n<2
        · exact .inl a1
        · by_cases a2:xs.getD 0 0=5
          · exact .inr (.inl ⟨by omega,a2,by unfold bigB;exact decide_eq_true (by omega)⟩)
          · by_cases a3:n<4
            · exact .inr (.inr (.inl ⟨by omega,a3,a2⟩))
            · by_cases a4:xs.getD 0 0=2
              · refine .inr (.inr (.inr (.inr ⟨by omega,a4,?_⟩)))
                rw[CA9 bigB xs (by omega)]
                unfold bigB
                by_cases b1:255<xs.getD 1 0
                · rw[decide_eq_true b1];rfl
                · by_cases b2:255<xs.getD 2 0
                  · rw[decide_eq_true b2,Bool.true_or,Bool.or_true]
                  · rw[decide_eq_true (show 255<xs.getD 3 0 by omega),Bool.or_true,Bool.or_true]
              · exact .inr (.inr (.inr (.inl ⟨by omega,a2,a4⟩)))
      have cC:=fun (h4:4≤n) H a' c' {vs} [RdC G H a' vs] (hv:vs=ints ((xs.drop 1).take 3))=>cC H a' c' hv (by omega)
      have cB1:=fun H=>cB H (xs.getD 1 0)
      clear h2 h4 hx HB hm
      have hx0:=hix 0
      have hx1:=hix 1
      have hpc:=Aa8 xs 1 3 1 4 rfl rfl
      generalize xs.getD 0 0=x0 at *
      generalize xs.getD 1 0=x1 at *
      rcases hcs with h|⟨h,rfl,hB⟩|⟨h,h',h5⟩|⟨h,h5,h6⟩|⟨h,rfl,hA⟩
      · clear cC cB1 hix hpc
        refine M5 Tryz.func257 rfl rfl rfl rfl rfl ?_
        repeat' (first|(apply F3;first|(apply C8;refine A8 ?_)|(apply C9;refine D8 rfl rfl ?_)|(apply E5;refine F5 rfl rfl rfl ?_;refine F7 rfl ?_)|(apply D6;refine D9 rfl rfl ?_)|(apply I6;refine I9 rfl rfl ?_;apply O1;refine O3 rfl ?_)|(apply J5;refine s_call (Q5 rfl rfl) rfl ?_)|(apply I1;refine J9 rfl rfl rfl rfl ?_;first|(apply I5)|(apply E9<;>intro hq<;>(try (exfalso;omega)))))|(apply D7)|(apply G9)|(apply H7)|(apply F6)|(apply A7)|(refine G5 rfl ?_;apply I5)|(apply D5)|(apply J2))
        all_goals (refine M3 (by (exact .inr rfl)) rfl N7 ?_;rfl)
      · rw[hB] at cB1
        clear cC hix hpc
        refine M5 Tryz.func257 rfl rfl rfl rfl rfl ?_
        repeat' (first|(apply F3;first|(apply C8;refine A8 ?_)|(apply C9;refine D8 rfl rfl ?_)|(apply E5;refine F5 rfl rfl rfl ?_;refine F7 rfl ?_)|(apply F4;refine F8 rfl rfl ?_;first|refine X5 (hx0 (by omega)) ?_ |refine X5 (hx1 (by omega)) ?_)|(apply D6;refine D9 rfl rfl ?_)|(apply I6;refine I9 rfl rfl ?_;first|(apply Q9;refine Q8 rfl ?_)|(apply O1;refine O3 rfl ?_))|(apply Y0;refine Z8 (Z7 rfl rfl rfl) rfl ?_)|(apply M4;refine N9 (K6 rfl rfl rfl hlx (by omega) (by omega)) rfl ?_)|(apply J5;refine s_call (Q5 rfl rfl) rfl ?_)|(apply I1;refine J9 rfl rfl rfl rfl ?_;first|(apply I7)|(apply I5)|(apply E9<;>intro hq<;>(try (exfalso;omega))))|(refine AJ5 rfl rfl rfl rfl (cB1 _) rfl rfl ?_))|(apply D7)|(apply G9)|(apply H7)|(apply F6)|(apply A7)|(refine G5 rfl ?_;apply I5)|(apply D5)|(apply J2))
        all_goals (refine M3 (by (exact .inr rfl)) rfl N7 ?_;rfl)
      · clear cC cB1 hix hpc
        refine M5 Tryz.func257 rfl rfl rfl rfl rfl ?_
        repeat' (first|(apply F3;first|(apply C8;refine A8 ?_)|(apply C9;refine D8 rfl rfl ?_)|(apply E5;refine F5 rfl rfl rfl ?_;refine F7 rfl ?_)|(apply F4;refine F8 rfl rfl ?_;refine X5 (hx0 (by omega)) ?_)|(apply D6;refine D9 rfl rfl ?_)|(apply I6;refine I9 rfl rfl ?_;first|(apply Q9;refine Q8 rfl ?_)|(apply O1;refine O3 rfl ?_))|(apply M4;refine N9 (K6 rfl rfl rfl hlx (by omega) (by omega)) rfl ?_)|(apply J5;refine s_call (Q5 rfl rfl) rfl ?_)|(apply I1;refine J9 rfl rfl rfl rfl ?_;first|(apply I7)|(apply I5)|(apply E9<;>intro hq<;>(try (exfalso;omega)))))|(apply D7)|(apply G9)|(apply H7)|(apply F6)|(apply A7)|(refine G5 rfl ?_;apply I5)|(apply D5)|(apply J2))
        all_goals (refine M3 (by (exact .inr rfl)) rfl N7 ?_;rfl)
      · clear cC cB1 hix hpc
        refine M5 Tryz.func257 rfl rfl rfl rfl rfl ?_
        repeat' (first|(apply F3;first|(apply C8;refine A8 ?_)|(apply C9;refine D8 rfl rfl ?_)|(apply E5;refine F5 rfl rfl rfl ?_;refine F7 rfl ?_)|(apply F4;refine F8 rfl rfl ?_;refine X5 (hx0 (by omega)) ?_)|(apply D6;refine D9 rfl rfl ?_)|(apply I6;refine I9 rfl rfl ?_;first|(apply Q9;refine Q8 rfl ?_)|(apply O1;refine O3 rfl ?_))|(apply M4;refine N9 (K6 rfl rfl rfl hlx (by omega) (by omega)) rfl ?_)|(apply J5;refine s_call (Q5 rfl rfl) rfl ?_)|(apply I1;refine J9 rfl rfl rfl rfl ?_;first|(apply I7)|(apply I5)|(apply E9<;>intro hq<;>(try (exfalso;omega)))))|(apply D7)|(apply G9)|(apply H7)|(apply F6)|(apply A7)|(refine G5 rfl ?_;apply I5)|(apply D5)|(apply J2))
        all_goals (refine M3 (by (exact .inr rfl)) rfl N7 ?_;rfl)
      · have cC:=cC h
        rw[hA] at cC
        clear cB1 hix hA
        refine M5 Tryz.func257 rfl rfl rfl rfl rfl ?_
        repeat' (first|(apply F3;first|(apply C8;refine A8 ?_)|(apply C9;refine D8 rfl rfl ?_)|(apply E5;refine F5 rfl rfl rfl ?_;refine F7 rfl ?_)|(apply F4;refine F8 rfl rfl ?_;refine X5 (hx0 (by omega)) ?_)|(apply D6;refine D9 rfl rfl ?_)|(apply I6;refine I9 rfl rfl ?_;first|(apply Q9;refine Q8 rfl ?_)|(apply O1;refine O3 rfl ?_))|(apply Y0;refine Z8 (Z7 rfl rfl rfl) rfl ?_)|(apply M4;refine N9 (K6 rfl rfl rfl hlx (by omega) (by omega)) rfl ?_)|(apply H6;refine F9 rfl rfl rfl (cC _ _ _ hpc) rfl rfl ?_)|(apply J5;refine s_call (Q5 rfl rfl) rfl ?_)|(apply o7;refine AD6 (Hr:=H) rfl rfl rfl rfl rfl RdC.here hlx (by omega) (by omega) (by omega) (by omega) rfl rfl (fun _ _=>?_))|(apply I1;refine J9 rfl rfl rfl rfl ?_;first|(apply I7)|(apply I5)|(apply E9<;>intro hq<;>(try (exfalso;omega)))))|(apply D7)|(apply G9)|(apply H7)|(apply F6)|(apply A7)|(refine G5 rfl ?_;apply I5)|(apply D5)|(apply J2))
        all_goals (refine M3 (by (exact .inr rfl)) rfl N7 ?_;rfl)
theorem Aa3 (n:Int):0≤flagI n∧flagI n≤128:=by
  unfold flagI
  rcases Nat.lt_or_ge n.toNat 10 with h|h
  · match n.toNat,h with
    | 0,_|1,_|2,_|3,_|4,_|5,_|6,_|7,_|8,_|9,_=>decide
  · rw[List.getD_eq_getElem?_getD,List.getElem?_eq_none (by simpa using h)];decide
theorem Ay3 (n:Int):((AC5 n.toNat:Nat):Int)=flagI n:=by
  unfold flagI AC5
  rcases Nat.lt_or_ge n.toNat 10 with h|h
  · match n.toNat,h with
    | 0,_|1,_|2,_|3,_|4,_|5,_|6,_|7,_|8,_|9,_=>rfl
  · rw[List.getD_eq_getElem?_getD,List.getD_eq_getElem?_getD,List.getElem?_eq_none (by simpa using h),List.getElem?_eq_none (by simpa using h)];rfl
theorem Be8 (G:Ctx) (H:List Ent) (n:Int) (h:0≤n∧n<10):SV Tryz.prog G 121 [.int .i64 n] H (.int .i64 (flagI n)):=by
  have:=Ao0 G H n.toNat (by omega)
  rw[Ay3,Int.toNat_of_nonneg h.1] at this
  exact this
attribute [local irreducible] flagI
theorem Bb1 (G:Ctx) (H:List Ent) (b:Nat) (fl fo ba n:Int) (hf:0≤fl∧fl≤255) (hn:0≤n∧n≤16383) (h38:n≠38) (h48:n≠48):SC Tryz.prog G 256 [.pointer (some ⟨b,0,none⟩),.int .i64 n] (.blk b 31 [.int .i64 fl,.int .i64 fo,.int .i64 ba]::H)
    (fun v H'=>v= .tuple #[]∧H'= .blk b 31 [.int .i64 (oneP (fl,fo,ba) n).1,.int .i64 (oneP (fl,fo,ba) n).2.1,.int .i64 (oneP (fl,fo,ba) n).2.2]::H):=by
  have cF:=fun H n h=>Be8 G H n h
  have hfb:=Aa3 n
  have hfb2:=Aa3 (n-20)
  obtain⟨u1,u2⟩:=hfb
  obtain⟨u3,u4⟩:=hfb2
  obtain⟨f1,f2⟩:=hf
  obtain⟨n1,n2⟩:=hn
  have a1:n-40-60+9=n-91:=by omega
  have a2:n-30-60+9=n-81:=by omega
  have a3:n-40+1=n-39:=by omega
  have a4:n-30+1=n-29:=by omega
  have A1:=Lib.hid a1
  have A2:=Lib.hid a2
  have A3:=Lib.hid a3
  have A4:=Lib.hid a4
  clear a1 a2 a3 a4
  refine J3 Tryz.func256 rfl rfl rfl rfl rfl ?_
  repeat' (first|(apply F3;first|(apply C8;refine A8 ?_)|(apply C9;refine D8 rfl rfl ?_)|(apply E5;refine F5 rfl rfl rfl ?_;first|(apply M0;refine L9 ⟨by omega,by omega⟩ ?_)|(apply y9;refine AA2 ⟨by omega,by omega⟩ ?_)|(apply AU0;refine AT7 (by (omega)) (by (omega)) (by (omega)) (by (omega)) ?_)|refine F7 rfl ?_)|(apply F4;refine F8 rfl rfl ?_;refine G6 rfl ?_)|(apply D6;refine D9 rfl rfl ?_)|(apply I6;refine I9 rfl rfl ?_;first|(apply Q9;refine Q8 rfl ?_)|(apply O1;refine O3 rfl ?_))|(apply G7;refine G8 (E8 rfl rfl) rfl ?_)|(apply P5;refine R7 (O6 rfl rfl rfl) rfl ?_)|(apply K8;refine M8 (H8 rfl rfl) rfl ?_)|(apply H6;refine F9 rfl rfl rfl (cF _ _ ⟨by omega,by omega⟩) rfl rfl ?_)|(apply H9;first|refine U3 rfl rfl rfl rfl rfl rfl rfl ?_ |refine M6 rfl rfl rfl rfl rfl rfl rfl rfl ?_)|(apply I1;first|(refine J9 rfl rfl rfl rfl ?_;first|(apply I7)|(apply I5)|(apply X9)|(apply E9<;>intro hq<;>(try (exfalso;omega)))|(apply O8<;>intro hq<;>(try (exfalso;omega))))|refine o5 rfl rfl rfl rfl rfl rfl ?_))|(apply U4;refine R5 (k:=0) I8 ?_)|(apply V6;first|(refine O9 rfl ?_)|(refine P8 rfl rfl rfl rfl (by kernel_rfl) (by decide+kernel) (by decide+kernel) ?_;first|(apply U5;refine I4 (V4 rfl rfl) ?_)|(apply Ae4;refine Ad4 rfl rfl ?_;first|(apply y9;refine AA2 ⟨by omega,by omega⟩ ?_)|(apply CH7;refine CF1 (by (omega)) (by (omega)) (by (omega)) (by (omega)) ?_)|(apply AU0;refine AT7 (by (omega)) (by (omega)) (by (omega)) (by (omega)) ?_))|(apply Q0;refine I4 (E8 rfl rfl) ?_)|(apply Y7;refine I4 (H8 rfl rfl) ?_))|(refine P9 rfl ?_)|(refine R4 (by decide+kernel) ?_)|(refine S9 (by kernel_rfl) ?_))|(apply X4;first|(refine T9 rfl)|(refine U7 (by decide+kernel) ?_)|(refine U0 rfl ?_ ?_))|(apply D7)|(apply G9)|(apply F6)|(apply A7)|(refine G5 rfl ?_;first|(apply I7)|(apply I5)|(apply E9<;>intro hq<;>(try (exfalso;omega))))|(apply D5)|(apply J2)|(first|(refine K3 (id:=6) ?_;refine V3 (H) I8 ?_)|(refine K3 (id:=10) ?_;refine V3 (H) I8 ?_)))
  all_goals
    clear cF
    refine AG7 (_::H) (by (exact .inl rfl)) rfl (List.Sublist.refl _) ?_
    refine⟨rfl,?_⟩
    unfold oneP
    simp (disch:=omega) only[if_pos,if_neg,A1.out,A2.out,A3.out,A4.out]
    try rfl
end
section
set_option maxHeartbeats 1000000
attribute [local irreducible] SW SL SQ AtQ SV SC BB LD PK Yields SO SOT SOA SY
theorem Bk0 (xs:List Int) (j:Nat) (hj:j<xs.length):mxL (xs.take (j+1))=mxL (xs.take j)++[max (xs.getD j 0) 0]:=by
  unfold mxL
  rw[List.take_succ_eq_append_getElem hj,List.map_append,List.getD_eq_getElem?_getD,List.getElem?_eq_getElem hj]
  rfl
def sgrV (fl fo ba:Int) (L:List Int):Value:=
  if penB fl fo ba=false then .tuple #[penV fl fo ba,.int .i64 4]
  else if L.length=0∨L.any AD3=true then .tuple #[penV fl fo ba,.int .i64 1]
  else if 32<L.length then .tuple #[penV fl fo ba,.int .i64 2]
  else .tuple #[penV (sgrL (fl,fo,ba) L).1 (sgrL (fl,fo,ba) L).2.1 (sgrL (fl,fo,ba) L).2.2,.int .i64 0]
theorem CC7:∀a b:Int,0≤a∧a≤255→0≤b∧b≤255→0≤ior a b∧ior a b≤255:=fun a b ⟨h1,h2⟩ ⟨h3,h4⟩=>by
  rw[Ay5]
  have:a.toNat|||b.toNat<2 ^ 8:=Nat.or_lt_two_pow (by omega) (by omega)
  omega
theorem Bi1:∀a b:Int,0≤a∧a≤255→0≤iclr a b∧iclr a b≤255:=fun a b ⟨h1,h2⟩=>by
  have:=B98 a b 256 h1 (by omega)
  exact⟨Bv0 _ _,by omega⟩
theorem By9 (t:Tri) (n:Int) (h:0≤t.1∧t.1≤255):0≤(oneP t n).1∧(oneP t n).1≤255:=by
  have h1:=Aa3 n
  have h2:=Aa3 (n-20)
  unfold oneP
  repeat' split
  all_goals (first|exact h|exact⟨by decide,by decide⟩|exact CC7 _ _ h ⟨h1.1,by omega⟩|exact Bi1 _ _ h)
theorem BI8 (G:Ctx) (H:List Ent) (fl fo ba:Int) (xs:List Int) {vs:List Value} (a:Option Addr) (n c:Nat) [h1:RdC G H a vs] (hv:vs=ints xs) (hn:n=xs.length) (hm:xs.length≤maxLen):SV Tryz.prog G 217 [penV fl fo ba,.slice a n c] H (sgrV fl fo ba xs):=by
  subst hv
  have c1:=fun H=>AC3 G H fl fo ba
  have c2:=fun H {vs:List Value} [RdC G H a vs] (hv:vs=ints xs)=>AR7 G H 255 AD3 xs a n c hv hn hm (fun H x _=>BY0 G H x)
  unfold sgrV
  cases hp:penB fl fo ba
  · rw[hp] at c1
    rw[if_pos rfl]
    refine P7 Tryz.func217 rfl rfl rfl rfl rfl ?_
    repeat' (first|(apply F3;first|(apply C8;refine A8 ?_)|(apply C9;refine D8 rfl rfl ?_)|(apply E5;refine F5 rfl rfl rfl ?_;refine F7 rfl ?_)|(apply F4;refine F8 rfl rfl ?_;refine K5 rfl ?_)|(apply D6;refine D9 rfl rfl ?_)|(apply H6;refine F9 rfl rfl rfl (c1 _) rfl rfl ?_)|(apply H9;refine M6 rfl rfl rfl rfl rfl rfl rfl rfl ?_)|(apply K9;refine O5 rfl rfl rfl rfl rfl rfl (fun _=>?_))|(apply L6;refine O0 rfl rfl rfl rfl (fun _=>?_)))|(apply D7)|(apply H7)|(apply A7)|(refine G5 rfl ?_;apply I7)|(apply D5)|(apply J4))
    all_goals (refine d9 H (by (exact .inr rfl)) rfl rfl rfl I8 ?_;exact⟨rfl,rfl⟩)
  · rw[hp] at c1
    rw[if_neg (by decide)]
    by_cases h2:xs.length=0∨xs.any AD3=true
    · rw[if_pos h2]
      rw[←hn] at h2
      generalize xs.any AD3=B at *
      rcases h2 with rfl|rfl
      · refine P7 Tryz.func217 rfl rfl rfl rfl rfl ?_
        repeat' (first|(apply F3;first|(apply C8;refine A8 ?_)|(apply C9;refine D8 rfl rfl ?_)|(apply E5;refine F5 rfl rfl rfl ?_;refine F7 rfl ?_)|(apply F4;refine F8 rfl rfl ?_;refine K5 rfl ?_)|(apply D6;refine D9 rfl rfl ?_)|(apply I6;refine I9 rfl rfl ?_;apply Q9;refine Q8 rfl ?_)|(apply H6;refine F9 rfl rfl rfl (c1 _) rfl rfl ?_)|(apply J5;refine s_call (Q5 rfl rfl) rfl ?_)|(apply H9;refine M6 rfl rfl rfl rfl rfl rfl rfl rfl ?_)|(apply K9;refine O5 rfl rfl rfl rfl rfl rfl (fun _=>?_))|(apply L6;refine O0 rfl rfl rfl rfl (fun _=>?_))|(apply I1;refine J9 rfl rfl rfl rfl ?_;apply X9))|(apply D7)|(apply G9)|(apply H7)|(apply A7)|(refine G5 rfl ?_;first|(apply I7)|(apply I5))|(apply D5)|(apply J4))
        all_goals (refine d9 H (by (exact .inr rfl)) rfl rfl rfl I8 ?_;exact⟨rfl,rfl⟩)
      · refine P7 Tryz.func217 rfl rfl rfl rfl rfl ?_
        repeat' (first|(apply F3;first|(apply C8;refine A8 ?_)|(apply C9;refine D8 rfl rfl ?_)|(apply E5;refine F5 rfl rfl rfl ?_;refine F7 rfl ?_)|(apply F4;refine F8 rfl rfl ?_;refine K5 rfl ?_)|(apply D6;refine D9 rfl rfl ?_)|(apply I6;refine I9 rfl rfl ?_;first|(apply Q9;refine Q8 rfl ?_)|(apply O1;refine O3 rfl ?_))|(apply H6;first|refine F9 rfl rfl rfl (c1 _) rfl rfl ?_ |refine F9 rfl rfl rfl (c2 _ rfl) rfl rfl ?_)|(apply J5;refine s_call (Q5 rfl rfl) rfl ?_)|(apply H9;refine M6 rfl rfl rfl rfl rfl rfl rfl rfl ?_)|(apply K9;refine O5 rfl rfl rfl rfl rfl rfl (fun _=>?_))|(apply L6;refine O0 rfl rfl rfl rfl (fun _=>?_))|(apply I1;refine J9 rfl rfl rfl rfl ?_;first|(apply I7)|(apply X9)|(apply O8<;>intro hq<;>(try (exfalso;omega)))))|(apply D7)|(apply G9)|(apply H7)|(apply A7)|(refine G5 rfl ?_;first|(apply I7)|(apply I5))|(apply D5)|(apply J4))
        all_goals (refine d9 H (by (exact .inr rfl)) rfl rfl rfl I8 ?_;exact⟨rfl,rfl⟩)
    · rw[if_neg h2]
      have hB:xs.any AD3=false:=by
        rw[←Bool.not_eq_true];exact fun h=>h2 (.inr h)
      have hn0:n≠0:=by rw[hn];exact fun h=>h2 (.inl h)
      rw[hB] at c2
      clear h2
      by_cases h3:32<xs.length
      · rw[if_pos h3]
        rw[←hn] at h3
        refine P7 Tryz.func217 rfl rfl rfl rfl rfl ?_
        repeat' (first|(apply F3;first|(apply C8;refine A8 ?_)|(apply C9;refine D8 rfl rfl ?_)|(apply E5;refine F5 rfl rfl rfl ?_;refine F7 rfl ?_)|(apply F4;refine F8 rfl rfl ?_;refine K5 rfl ?_)|(apply D6;refine D9 rfl rfl ?_)|(apply I6;refine I9 rfl rfl ?_;apply O1;refine O3 rfl ?_)|(apply H6;first|refine F9 rfl rfl rfl (c1 _) rfl rfl ?_ |refine F9 rfl rfl rfl (c2 _ rfl) rfl rfl ?_)|(apply J5;refine s_call (Q5 rfl rfl) rfl ?_)|(apply H9;refine M6 rfl rfl rfl rfl rfl rfl rfl rfl ?_)|(apply K9;refine O5 rfl rfl rfl rfl rfl rfl (fun _=>?_))|(apply L6;refine O0 rfl rfl rfl rfl (fun _=>?_))|(apply I1;refine J9 rfl rfl rfl rfl ?_;first|(apply I7)|(apply O8<;>intro hq<;>(try (exfalso;omega)))))|(apply D7)|(apply G9)|(apply H7)|(apply A7)|(refine G5 rfl ?_;first|(apply I5)|(apply E9<;>intro hq<;>(try (exfalso;omega))))|(apply D5)|(apply J4))
        all_goals (refine d9 H (by (exact .inr rfl)) rfl rfl rfl I8 ?_;exact⟨rfl,rfl⟩)
      · rw[if_neg h3]
        rw[←hn] at h3
        refine P7 Tryz.func217 rfl rfl rfl rfl rfl ?_
        repeat' (first|(apply F3;first|(apply C8;refine A8 ?_)|(apply C9;refine D8 rfl rfl ?_)|(apply E5;refine F5 rfl rfl rfl ?_;refine F7 rfl ?_)|(apply F4;refine F8 rfl rfl ?_;refine K5 rfl ?_)|(apply D6;refine D9 rfl rfl ?_)|(apply I6;refine I9 rfl rfl ?_;apply O1;refine O3 rfl ?_)|(apply H6;first|refine F9 rfl rfl rfl (c1 _) rfl rfl ?_ |refine F9 rfl rfl rfl (c2 _ rfl) rfl rfl ?_)|(apply J5;refine s_call (Q5 rfl rfl) rfl ?_)|(apply K9;refine O5 rfl rfl rfl rfl rfl rfl (fun _=>?_))|(apply L6;refine O0 rfl rfl rfl rfl (fun _=>?_))|(apply I1;refine J9 rfl rfl rfl rfl ?_;first|(apply I7)|(apply O8<;>intro hq<;>(try (exfalso;omega)))))|(apply D7)|(apply G9)|(apply F6)|(apply A7)|(refine G5 rfl ?_;first|(apply I5)|(apply E9<;>intro hq<;>(try (exfalso;omega))))|(apply D5))
        rename_i b2 b4 _
        have hall:∀x∈xs,-1≤x∧x≤16383:=fun x hx=>by
          have:AD3 x=false:=by
            rw[←Bool.not_eq_true]
            intro ho
            have:=List.any_eq_true.2 ⟨x,hx,ho⟩
            rw[hB] at this
            cases this
          unfold AD3 at this
          have:=of_decide_eq_false this
          omega
        have hfl:0≤fl∧fl≤255:=by rw[AM1] at hp;exact hp.1
        have hix:∀k:Nat,k<n→(ints xs)[(k:Int).toNat * 1]? =some (.int .i64 (xs.getD k 0)):=fun k hk=>ints_at xs k (by rw[←hn];exact hk)
        have hlx:(ints xs).length=n * 1:=by simp [ints,hn]
        have hbx:=fun k (hk:k<n)=>hall _ (Ai7 (xs:=xs) (j:=k) (by rw[←hn];exact hk))
        have htk:=fun j (hj:j<n)=>Bk0 xs j (by rw[←hn];exact hj)
        have hlj:=fun j (hj:j≤n)=>show (mxL (xs.take j)).length=j from by rw[Ae6,List.length_take,←hn];omega
        have Hix:=Lib.hid hix
        have Hbx:=Lib.hid hbx
        have Htk:=Lib.hid htk
        have Hlj:=Lib.hid hlj
        have Hn:=Lib.hid hn
        have Hall:=Lib.hid hall
        clear hix hbx htk hlj hn hall hB hp c1 c2 hm
        refine R9 (α:=Nat×Option Addr×Nat) (fun g=>[(2,.pointer (some ⟨b2,0,none⟩)),(4,.pointer (some ⟨b4,0,none⟩)),(7,.slice g.2.1 g.1 g.2.2),(31,.slice a n c),(32,.int .i64 n),(33,.int .i64 g.1)])
          (fun g=> .own 3 1 g.2.1 g.1 g.2.2 (ints (mxL (xs.take g.1))):: .blk b4 31 [.int .i64 0,.int .i64 0,.int .i64 0]:: .blk b2 31 [.int .i64 fl,.int .i64 fo,.int .i64 ba]::H)
          (fun g=>g.1≤n) (fun g=>n-g.1) (0,none,0) (Nat.zero_le _) (by repeat (first|exact Le.nil _|refine Le.cons (by (rfl)) ?_)) (fun _ hw=>(hw.nilrow _ _).subs (by repeat (first|refine Subs.cons (by repeat constructor) ?_ |exact Subs.sub N7))) ?_
        rintro ⟨j,aj,cj⟩ hj
        dsimp only at hj ⊢
        by_cases hlt:(j:Int)<n
        · have hxj:=Hix.out j (by omega)
          have htj:=Htk.out j (by omega)
          have hlj:=Hlj.out j (by omega)
          generalize hxx:xs.getD j 0=x at *
          generalize hMj:mxL (xs.take j)=M at *
          have hlM:(ints M).length=j * 1:=by simp [ints,hlj]
          repeat' (first|(apply F3;first|(apply C8;refine A8 ?_)|(apply C9;refine D8 rfl rfl ?_)|(apply E5;refine F5 rfl rfl rfl ?_;first|(apply M0;refine L9 ⟨by omega,by omega⟩ ?_)|refine F7 rfl ?_)|(apply F4;refine F8 rfl rfl ?_;refine X5 hxj ?_)|(apply D6;refine D9 rfl rfl ?_)|(apply M4;refine N9 (K6 rfl rfl rfl hlx (by omega) (by omega)) rfl ?_)|(apply J5;first|(refine s_call (AQ3 rfl rfl rfl) rfl ?_)|refine R6 rfl rfl rfl rfl (by (rfl)) (by (rfl)) (by omega) rfl rfl (fun _ _=>?_))|(apply V8;refine M7 rfl rfl rfl rfl rfl rfl rfl rfl rfl rfl (fun _=>?_)))|(apply D7)|(apply G9)|(apply F6)|(apply A7)|(refine G5 rfl ?_;apply E9<;>intro hq<;>(try (exfalso;omega)))|(apply D5)|(apply J2))
          rename_i _ a' c'
          refine J6 (j+1,a',c') ⟨by show j+1≤n;omega,by show n-(j+1)<n-j;omega⟩ ?_ ?_
          · exact(by repeat (first|exact Le.nil _|refine Le.cons (by (rfl)) ?_))
          · dsimp only
            rw[htj,show ints (M++[max x 0])=ints M++[.int .i64 (max x 0)] from by simp [ints]]
            exact I8
        · obtain rfl:j=n:=by omega
          have htl:xs.take j=xs:=by rw[List.take_of_length_le (by rw[←Hn.out];exact Nat.le_refl _)]
          rw[htl]
          have hMn:(mxL xs).length=j:=by rw[Ae6,←Hn.out]
          have hMx:∀k,k<j→(ints (mxL xs))[(k:Int).toNat * 1]? =some (.int .i64 (max (xs.getD k 0) 0)):=fun k hk=>by rw[ints_at _ k (by omega),Aj2]
          have hlM:(ints (mxL xs)).length=j * 1:=by simp [ints,hMn]
          have hE:=fun (i:Nat) (hi:i≤j) (H:List Ent) (a':Option Addr) (c':Nat) {vs:List Value} [RdC G H a' vs] (hv:vs=ints ((mxL xs).drop i)) (hc:j-i≤c')=>A98 G H ((mxL xs).drop i) a' (j-i) c' hv (by rw[List.length_drop,hMn]) (by rw[List.length_drop,hMn];omega) hc (fun x hx=>by
            obtain⟨y,hy,rfl⟩:=List.mem_map.1 (List.mem_of_mem_drop hx)
            have:=Hall.out y hy
            exact⟨by omega,by omega⟩)
          have hpc:=fun (i:Nat) (h:i≤j)=>show ((ints (mxL xs)).drop ((i:Int).toNat * 1)).take (((j:Int).toNat-(i:Int).toNat) * 1)=ints ((mxL xs).drop i) from by
            rw[Aa8 (mxL xs) i (j-i) i j rfl (by omega),List.take_of_length_le (by rw[List.length_drop,hMn];exact Nat.le_refl _)]
          have hdr:=fun i (hi:i<j)=>show (mxL xs).drop i=max (xs.getD i 0) 0::(mxL xs).drop (i+1) from by
            rw[List.drop_eq_getElem_cons (by omega),←Aj2,List.getD_eq_getElem?_getD,List.getElem?_eq_getElem (by omega:i<(mxL xs).length)];rfl
          have hfin:sgrL (fl,fo,ba) xs=sgrL (fl,fo,ba) (mxL xs):=(Bw3 _ _).symm
          rw[hfin]
          have hnil:(mxL xs).drop j=[]:=List.drop_eq_nil_of_le (by omega)
          generalize mxL xs=M at *
          have HE:=Lib.hid hE
          have Hpc:=Lib.hid hpc
          have Hdr:=Lib.hid hdr
          have HMx:=Lib.hid hMx
          have Hnil:=Lib.hid hnil
          clear hE hpc hdr hMx hnil htl hfin hlx Hix Hall Htk Hlj
          repeat' (first|(apply F3;first|(apply C8;refine A8 ?_)|(apply E5;refine F5 rfl rfl rfl ?_;refine F7 rfl ?_)|(apply D6;refine D9 rfl rfl ?_))|(apply D7)|(apply N8)|(apply F6)|(apply A7)|(refine G5 rfl ?_;apply E9<;>intro hq<;>(try (exfalso;omega)))|(apply D5)|(apply J7)|(apply J8))
          refine R9 (α:=Nat×Int×Int×Int) (fun g=>[(2,.pointer (some ⟨b2,0,none⟩)),(4,.pointer (some ⟨b4,0,none⟩)),(7,.slice aj j cj),(10,.int .i64 g.1)])
            (fun g=> .own 3 1 aj j cj (ints M):: .blk b4 31 [.int .i64 0,.int .i64 0,.int .i64 0]:: .blk b2 31 [.int .i64 g.2.1,.int .i64 g.2.2.1,.int .i64 g.2.2.2]::H)
            (fun g=>g.1≤j∧(0≤g.2.1∧g.2.1≤255)∧sgrL (g.2.1,g.2.2.1,g.2.2.2) (M.drop g.1)=sgrL (fl,fo,ba) M) (fun g=>j-g.1) (0,fl,fo,ba) ⟨Nat.zero_le _,hfl,by rw[List.drop_zero]⟩ (by repeat (first|exact Le.nil _|refine Le.cons (by (rfl)) ?_)) I8 ?_
          rintro ⟨i,tl,tf,tb⟩ ⟨hi,hfi,hs⟩
          dsimp only at hi hfi hs ⊢
          by_cases hlt2:(i:Int)<j
          · have hcell:=HMx.out i (by omega)
            have hb:=Hbx.out i (by omega)
            rw[Hdr.out i (by omega),Ad0] at hs
            have hm1:0≤max (xs.getD i 0) 0:=by omega
            have hm2:max (xs.getD i 0) 0≤16383:=by omega
            generalize max (xs.getD i 0) 0=m at *
            rw[show max m 0=m from by omega] at hs
            by_cases hm:m=38∨m=48
            · rw[if_pos hm] at hs
              have hpi:=Hpc.out (i+1) (by omega)
              have hEi:=HE.out (i+1) (by omega)
              have h2:=BN8 (M.drop (i+1))
              rw[List.length_drop] at h2
              generalize hq:extL (M.drop (i+1))=q at *
              obtain⟨cc,kk⟩:=q
              refine AW8 fun w hw=>?_
              have hcap:=(inferInstance:CapC G (.own 3 1 aj j cj (ints M):: .blk b4 31 [.int .i64 0,.int .i64 0,.int .i64 0]:: .blk b2 31 [.int .i64 tl,.int .i64 tf,.int .i64 tb]::H) aj j cj).here w hw
              clear hw
              dsimp only at hs h2
              have hdd:∀k,(M.drop (i+1)).drop k=M.drop (i+1+k):=fun k=>by rw[List.drop_drop]
              have Hs:=Lib.hid hs
              have Hdd:=Lib.hid hdd
              have hcc:((j:Int).toNat-((i:Int)+1).toNat)=j-(i+1):=by omega
              have cE:=fun (H:List Ent) (a':Option Addr) (c':Nat) {vs:List Value} [RdC G H a' vs] (hv:vs=ints (M.drop (i+1))) (hc:j-(i+1)≤c')=>hEi H a' c' hv hc
              have hpi':((ints M).drop (((i:Int)+1).toNat * 1)).take (((j:Int).toNat-((i:Int)+1).toNat) * 1)=ints (M.drop (i+1)):=hpi
              have cE':=fun (H:List Ent) (a':Option Addr) (c':Nat) {vs:List Value} [RdC G H a' vs] (hv:vs=ints (M.drop (i+1))) (hc:j-(i+1)≤c')=>show SV Tryz.prog G 257 [.slice a' ((j:Int).toNat-((i:Int)+1).toNat) c'] H (.tuple #[.int .i64 cc,.int .i64 kk]) from by
                have:=cE H a' c' hv hc
                rw[hcc];exact this
              clear hs hdd HE Hpc Hdr HMx hEi hpi cE hq
              have fin:kk=0→sgrL (fl,fo,ba) M=(tl,tf,tb):=fun e=>by have:=Hs.out;rw[if_pos e] at this;exact this.symm
              have nxt:¬kk=0→sgrL (setC (tl,tf,tb) m cc) (M.drop (i+1+kk))=sgrL (fl,fo,ba) M:=fun e=>by have:=Hs.out;rw[if_neg e,Hdd.out] at this;exact this
              have Fin:=Lib.hid fin
              have Nxt:=Lib.hid nxt
              clear fin nxt Hs Hdd
              rcases h2 with h2|⟨h2,h4⟩|⟨h2,h4⟩
              · subst h2
                have fin:=Fin.out rfl
                rw[fin]
                clear fin Fin Nxt
                rcases hm with rfl|rfl
                all_goals
                  repeat' (first|(apply F3;first|(apply C8;refine A8 ?_)|(apply C9;refine D8 rfl rfl ?_)|(apply E5;refine F5 rfl rfl rfl ?_;first|(apply M0;refine L9 ⟨by omega,by omega⟩ ?_)|refine F7 rfl ?_)|(apply F4;first|(refine F8 rfl rfl ?_;refine K5 rfl ?_)|(refine F8 rfl rfl ?_;refine X5 hcell ?_))|(apply D6;refine D9 rfl rfl ?_)|(apply I6;refine I9 rfl rfl ?_;first|(apply Q9;refine Q8 rfl ?_)|(apply O1;refine O3 rfl ?_))|(apply Q6;refine U2 (K7 rfl rfl rfl) rfl ?_)|(apply M4;refine N9 (K6 rfl rfl rfl hlM (by omega) (by omega)) rfl ?_)|(apply H6;refine F9 rfl rfl rfl (cE' _ _ _ hpi' (by omega)) rfl rfl ?_)|(apply J5;refine s_call (Q5 rfl rfl) rfl ?_)|(apply H9;refine M6 rfl rfl rfl rfl rfl rfl rfl rfl ?_)|(apply o7;refine AD6 (Hr:= .own 3 1 aj j cj (ints M):: .blk b4 31 [.int .i64 0,.int .i64 0,.int .i64 0]:: .blk b2 31 [.int .i64 tl,.int .i64 tf,.int .i64 tb]::H) rfl rfl rfl rfl rfl RdC.here hlM (by omega) (by omega) (by omega) (by omega) rfl rfl (fun _ _=>?_))|(apply I1;refine J9 rfl rfl rfl rfl ?_;first|(apply I7)|(apply I5)))|(apply D7)|(apply G9)|(apply H7)|(apply N8)|(apply F6)|(apply A7)|(refine G5 rfl ?_;first|(apply I7)|(apply I5)|(apply E9<;>intro hq<;>(try (exfalso;omega))))|(apply D5)|(apply J7)|(apply J8)|refine AI5 rfl ?_)
                  refine d9 H (by (exact .inr rfl)) rfl rfl rfl I8 ?_;exact⟨rfl,rfl⟩
              all_goals
                subst h2
                have nxt:=Nxt.out (by decide)
                clear Fin Nxt
                rcases hm with rfl|rfl
              · repeat' (first|(apply F3;first|(apply C8;refine A8 ?_)|(apply C9;refine D8 rfl rfl ?_)|(apply E5;refine F5 rfl rfl rfl ?_;first|(apply M0;refine L9 ⟨by omega,by omega⟩ ?_)|refine F7 rfl ?_)|(apply F4;refine F8 rfl rfl ?_;refine X5 hcell ?_)|(apply D6;refine D9 rfl rfl ?_)|(apply I6;refine I9 rfl rfl ?_;apply O1;refine O3 rfl ?_)|(apply G7;refine G8 (E8 rfl rfl) rfl ?_)|(apply Q6;refine U2 (K7 rfl rfl rfl) rfl ?_)|(apply M4;refine N9 (K6 rfl rfl rfl hlM (by omega) (by omega)) rfl ?_)|(apply H6;refine F9 rfl rfl rfl (cE' _ _ _ hpi' (by omega)) rfl rfl ?_)|(apply J5;refine s_call (Q5 rfl rfl) rfl ?_)|(apply H9;refine U3 rfl rfl rfl rfl rfl rfl rfl ?_)|(apply o7;refine AD6 (Hr:= .own 3 1 aj j cj (ints M):: .blk b4 31 [.int .i64 0,.int .i64 0,.int .i64 0]:: .blk b2 31 [.int .i64 tl,.int .i64 tf,.int .i64 tb]::H) rfl rfl rfl rfl rfl RdC.here hlM (by omega) (by omega) (by omega) (by omega) rfl rfl (fun _ _=>?_))|(apply I1;refine J9 rfl rfl rfl rfl ?_;apply I5))|(apply D7)|(apply G9)|(apply F6)|(apply A7)|(refine G5 rfl ?_;first|(apply I7)|(apply I5)|(apply E9<;>intro hq<;>(try (exfalso;omega))))|(apply D5)|(apply J2))
                exact J6 (i+1+2,tl,cc,tb) ⟨⟨by show i+1+2≤j;omega,hfi,nxt⟩,by show j-(i+1+2)<j-i;omega⟩ (by repeat (first|exact Le.nil _|refine Le.cons (by (rfl)) ?_)) I8
              · repeat' (first|(apply F3;first|(apply C8;refine A8 ?_)|(apply C9;refine D8 rfl rfl ?_)|(apply E5;refine F5 rfl rfl rfl ?_;first|(apply M0;refine L9 ⟨by omega,by omega⟩ ?_)|refine F7 rfl ?_)|(apply F4;refine F8 rfl rfl ?_;refine X5 hcell ?_)|(apply D6;refine D9 rfl rfl ?_)|(apply I6;refine I9 rfl rfl ?_;apply Q9;refine Q8 rfl ?_)|(apply G7;refine G8 (E8 rfl rfl) rfl ?_)|(apply Q6;refine U2 (K7 rfl rfl rfl) rfl ?_)|(apply M4;refine N9 (K6 rfl rfl rfl hlM (by omega) (by omega)) rfl ?_)|(apply H6;refine F9 rfl rfl rfl (cE' _ _ _ hpi' (by omega)) rfl rfl ?_)|(apply J5;refine s_call (Q5 rfl rfl) rfl ?_)|(apply H9;refine U3 rfl rfl rfl rfl rfl rfl rfl ?_)|(apply o7;refine AD6 (Hr:= .own 3 1 aj j cj (ints M):: .blk b4 31 [.int .i64 0,.int .i64 0,.int .i64 0]:: .blk b2 31 [.int .i64 tl,.int .i64 tf,.int .i64 tb]::H) rfl rfl rfl rfl rfl RdC.here hlM (by omega) (by omega) (by omega) (by omega) rfl rfl (fun _ _=>?_))|(apply I1;refine J9 rfl rfl rfl rfl ?_;apply I7))|(apply D7)|(apply G9)|(apply F6)|(apply A7)|(refine G5 rfl ?_;first|(apply I5)|(apply E9<;>intro hq<;>(try (exfalso;omega))))|(apply D5)|(apply J2))
                exact J6 (i+1+2,tl,tf,cc) ⟨⟨by show i+1+2≤j;omega,hfi,nxt⟩,by show j-(i+1+2)<j-i;omega⟩ (by repeat (first|exact Le.nil _|refine Le.cons (by (rfl)) ?_)) I8
              · repeat' (first|(apply F3;first|(apply C8;refine A8 ?_)|(apply C9;refine D8 rfl rfl ?_)|(apply E5;refine F5 rfl rfl rfl ?_;first|(apply M0;refine L9 ⟨by omega,by omega⟩ ?_)|refine F7 rfl ?_)|(apply F4;refine F8 rfl rfl ?_;refine X5 hcell ?_)|(apply D6;refine D9 rfl rfl ?_)|(apply I6;refine I9 rfl rfl ?_;apply O1;refine O3 rfl ?_)|(apply G7;refine G8 (E8 rfl rfl) rfl ?_)|(apply Q6;refine U2 (K7 rfl rfl rfl) rfl ?_)|(apply M4;refine N9 (K6 rfl rfl rfl hlM (by omega) (by omega)) rfl ?_)|(apply H6;refine F9 rfl rfl rfl (cE' _ _ _ hpi' (by omega)) rfl rfl ?_)|(apply J5;refine s_call (Q5 rfl rfl) rfl ?_)|(apply H9;refine U3 rfl rfl rfl rfl rfl rfl rfl ?_)|(apply o7;refine AD6 (Hr:= .own 3 1 aj j cj (ints M):: .blk b4 31 [.int .i64 0,.int .i64 0,.int .i64 0]:: .blk b2 31 [.int .i64 tl,.int .i64 tf,.int .i64 tb]::H) rfl rfl rfl rfl rfl RdC.here hlM (by omega) (by omega) (by omega) (by omega) rfl rfl (fun _ _=>?_))|(apply I1;refine J9 rfl rfl rfl rfl ?_;apply I5))|(apply D7)|(apply G9)|(apply F6)|(apply A7)|(refine G5 rfl ?_;first|(apply I7)|(apply I5)|(apply E9<;>intro hq<;>(try (exfalso;omega))))|(apply D5)|(apply J2))
                exact J6 (i+1+4,tl,cc,tb) ⟨⟨by show i+1+4≤j;omega,hfi,nxt⟩,by show j-(i+1+4)<j-i;omega⟩ (by repeat (first|exact Le.nil _|refine Le.cons (by (rfl)) ?_)) I8
              · repeat' (first|(apply F3;first|(apply C8;refine A8 ?_)|(apply C9;refine D8 rfl rfl ?_)|(apply E5;refine F5 rfl rfl rfl ?_;first|(apply M0;refine L9 ⟨by omega,by omega⟩ ?_)|refine F7 rfl ?_)|(apply F4;refine F8 rfl rfl ?_;refine X5 hcell ?_)|(apply D6;refine D9 rfl rfl ?_)|(apply I6;refine I9 rfl rfl ?_;apply Q9;refine Q8 rfl ?_)|(apply G7;refine G8 (E8 rfl rfl) rfl ?_)|(apply Q6;refine U2 (K7 rfl rfl rfl) rfl ?_)|(apply M4;refine N9 (K6 rfl rfl rfl hlM (by omega) (by omega)) rfl ?_)|(apply H6;refine F9 rfl rfl rfl (cE' _ _ _ hpi' (by omega)) rfl rfl ?_)|(apply J5;refine s_call (Q5 rfl rfl) rfl ?_)|(apply H9;refine U3 rfl rfl rfl rfl rfl rfl rfl ?_)|(apply o7;refine AD6 (Hr:= .own 3 1 aj j cj (ints M):: .blk b4 31 [.int .i64 0,.int .i64 0,.int .i64 0]:: .blk b2 31 [.int .i64 tl,.int .i64 tf,.int .i64 tb]::H) rfl rfl rfl rfl rfl RdC.here hlM (by omega) (by omega) (by omega) (by omega) rfl rfl (fun _ _=>?_))|(apply I1;refine J9 rfl rfl rfl rfl ?_;apply I7))|(apply D7)|(apply G9)|(apply F6)|(apply A7)|(refine G5 rfl ?_;first|(apply I5)|(apply E9<;>intro hq<;>(try (exfalso;omega))))|(apply D5)|(apply J2))
                exact J6 (i+1+4,tl,tf,cc) ⟨⟨by show i+1+4≤j;omega,hfi,nxt⟩,by show j-(i+1+4)<j-i;omega⟩ (by repeat (first|exact Le.nil _|refine Le.cons (by (rfl)) ?_)) I8
            · rw[if_neg hm] at hs
              have h38:m≠38:=fun e=>hm (.inl e)
              have h48:m≠48:=fun e=>hm (.inr e)
              have hof:=By9 (tl,tf,tb) m hfi
              have cO:=fun H=>Bb1 G H b2 tl tf tb m hfi ⟨hm1,hm2⟩ h38 h48
              generalize oneP (tl,tf,tb) m=t2 at *
              obtain⟨tl2,tf2,tb2⟩:=t2
              have Hs:=Lib.hid hs
              clear hs hm HE Hpc Hdr HMx
              repeat' (first|(apply F3;first|(apply C8;refine A8 ?_)|(apply C9;refine D8 rfl rfl ?_)|(apply E5;refine F5 rfl rfl rfl ?_;first|(apply M0;refine L9 ⟨by omega,by omega⟩ ?_)|refine F7 rfl ?_)|(apply F4;refine F8 rfl rfl ?_;refine X5 hcell ?_)|(apply D6;refine D9 rfl rfl ?_)|(apply I6;refine I9 rfl rfl ?_;apply Q9;refine Q8 rfl ?_)|(apply M4;refine N9 (K6 rfl rfl rfl hlM (by omega) (by omega)) rfl ?_)|(apply H6;refine c_call rfl rfl rfl (AC0 PickBlk.here (cO _)) rfl rfl ?_;rintro _ _ ⟨rfl,rfl⟩)|(apply J5;refine s_call (Q5 rfl rfl) rfl ?_)|(apply I1;refine J9 rfl rfl rfl rfl ?_;first|(apply I7)|(apply X6<;>intro hq<;>(try (exfalso;omega)))))|(apply D7)|(apply G9)|(apply N8)|(apply F6)|(apply A7)|(refine G5 rfl ?_;first|(apply E9<;>intro hq<;>(try (exfalso;omega)))|(apply X6<;>intro hq<;>(try (exfalso;omega))))|(apply D5)|(apply J7)|(apply J8))
              exact J6 (i+1,tl2,tf2,tb2) ⟨⟨by show i+1≤j;omega,hof,Hs.out⟩,by show j-(i+1)<j-i;omega⟩ (by repeat (first|exact Le.nil _|refine Le.cons (by (rfl)) ?_)) I8
          · obtain rfl:i=j:=by omega
            rw[Hnil.out,AZ0] at hs
            rw[←hs]
            repeat' (first|(apply F3;first|(apply C8;refine A8 ?_)|(apply C9;refine D8 rfl rfl ?_)|(apply E5;refine F5 rfl rfl rfl ?_;refine F7 rfl ?_)|(apply F4;refine F8 rfl rfl ?_;refine K5 rfl ?_)|(apply D6;refine D9 rfl rfl ?_)|(apply J5;refine s_call (Q5 rfl rfl) rfl ?_)|(apply H9;refine M6 rfl rfl rfl rfl rfl rfl rfl rfl ?_))|(apply D7)|(apply H7)|(apply N8)|(apply A7)|(refine G5 rfl ?_;apply E9<;>intro hq<;>(try (exfalso;omega)))|(apply D5)|(apply J7)|(apply J8))
            refine d9 H (by (exact .inr rfl)) rfl rfl rfl I8 ?_;exact⟨rfl,rfl⟩
end
section
set_option maxHeartbeats 2000000
attribute [local irreducible] SW SL SQ AtQ SV SC BB LD PK Yields SO SOT SOA SY
theorem CH3 {t:Tri} {n:Int} (h:n=0):oneP t n=(0,0,0):=by unfold oneP;rw[if_pos h]
theorem CE8 {t:Tri} {n:Int} (h:1≤n∧n≤9):oneP t n=(ior t.1 (flagI n),t.2.1,t.2.2):=by unfold oneP;simp (disch:=omega) only[if_pos,if_neg]
theorem CI5 {t:Tri} {n:Int} (h:30≤n∧n≤37):oneP t n=(t.1,n-29,t.2.2):=by unfold oneP;simp (disch:=omega) only[if_pos,if_neg]
theorem CH2 {t:Tri} {n:Int} (h:90≤n∧n≤97):oneP t n=(t.1,n-81,t.2.2):=by unfold oneP;simp (disch:=omega) only[if_pos,if_neg]
theorem CH4 {t:Tri} {n:Int} (h:40≤n∧n≤47):oneP t n=(t.1,t.2.1,n-39):=by unfold oneP;simp (disch:=omega) only[if_pos,if_neg]
theorem CF2 {t:Tri} {n:Int} (h:100≤n∧n≤107):oneP t n=(t.1,t.2.1,n-91):=by unfold oneP;simp (disch:=omega) only[if_pos,if_neg]
end
section
set_option maxHeartbeats 2000000
theorem BC8 {P:Program} {x y:Operand} {t:TypeId} {a b:ByteArray} {K:Value→Prop} (h:a=b) (hk:K (.bool true)):BB P .eql t x y (.string a) (.string b) K:=AH9 (by rw[decide_eq_true h];exact hk)
/-- Moved to a row and a column. -/
def moveD (s:Scr) (r c:Int):Scr:={s with row:=l6 r 0 ((s.h:Int)-1),late:=false,col:=l6 c 0 ((s.w:Int)-1)}
attribute [local irreducible] SW SL SQ AtQ SV SC BB LD PK Yields SO SOT SOA SY
theorem Bp0 (G:Ctx) (H:List Ent) (s:Scr) (r c:Int) (tb:Nat) (ga:Option Addr) (gn gc:Nat) (oa:Option Addr) (on oc:Nat) (pa:Option Addr) (pn pc:Nat) (t:ByteArray) (hw:s.w≤1000) (hh:s.h≤1000) (hm:s.modes=12):SC Tryz.prog G 213 [.pointer (some ⟨tb,0,none⟩),.int .i64 r,.int .i64 c] (.blk tb 158 (trmC s ga gn gc oa on oc pa pn pc t)::H) fun v H'=>v=resV []∧H'= .blk tb 158 (trmC (moveD s r c) ga gn gc oa on oc pa pn pc t)::H:=by
  have cL:=fun H n lo hi=>Ax3 G H n lo hi
  have hm2:0≤s.modes∧s.modes≤2047:=by rw[hm];decide
  have hmo:(iand s.modes 2 !=0)=false:=by rw[hm,AP1];decide
  have cI:=fun (H:List Ent) (cs:List Value) (_:HasBlk H tb 158 cs) (hc:cs[11]? =some (.int .i64 s.modes))=>AM6 G H tb cs s.modes 2 hm2 (by omega) hc
  rw[hmo] at cI
  have cC:=fun H=>AR2 G H {s with row:=l6 r 0 ((s.h:Int)-1)} c tb ga gn gc oa on oc pa pn pc t hw
  unfold trmC at cC ⊢
  refine AH0 Tryz.func213 rfl rfl rfl rfl rfl ?_
  repeat' (first|(apply F3;first|(apply C8;refine A8 ?_)|(apply C9;refine D8 rfl rfl ?_)|(apply E5;refine F5 rfl rfl rfl ?_;apply y9;refine AA2 ⟨by omega,by omega⟩ ?_)|(apply F4;refine F8 rfl rfl ?_;refine G6 rfl ?_)|(apply G7;refine G8 (E8 rfl rfl) rfl ?_)|(apply K8;refine M8 (H8 rfl rfl) rfl ?_)|(apply H6;first|refine F9 rfl rfl rfl (cL _ _ _ _) rfl rfl ?_ |refine F9 rfl rfl rfl (cI _ _ inferInstance rfl) rfl rfl ?_ |(refine c_call rfl rfl rfl (cC _) rfl rfl ?_;rintro _ _ ⟨rfl,rfl⟩))|(apply H9;refine U3 rfl rfl rfl rfl rfl rfl rfl ?_))|(apply D7)|(apply A7)|(refine G5 rfl ?_;apply I5)|(apply D5))
  refine AG7 (_::H) (by (exact .inl rfl)) rfl (List.Sublist.cons_cons _ N7) ?_
  exact⟨rfl,rfl⟩
theorem AU8 (G:Ctx) (H:List Ent) (L:List Int) (a:Option Addr) (n c:Nat) [h1:RdC G H a (ints L)] (hn:n=L.length) (i:Int) (x:Int) (hx:(if 0≤i∧i<n∧L.getD i.toNat 0≠ -1 then L.getD i.toNat 0 else 1)=x):SV Tryz.prog G 166 [.slice a n c,.int .i64 i] H (.int .i64 (max x 1)):=by
  have cG:=fun (H:List Ent) [RdC G H a (ints L)]=>Aa4 G H L a n c hn i 1
  rw[hx] at cG
  clear hx hn
  refine P7 Tryz.func166 rfl rfl rfl rfl rfl ?_
  repeat' (first|(apply F3;first|(apply C8;refine A8 ?_)|(apply C9;refine D8 rfl rfl ?_)|(apply D6;refine D9 rfl rfl ?_)|(apply H6;refine F9 rfl rfl rfl (cG _) rfl rfl ?_)|(apply J5;refine s_call (AQ3 rfl rfl rfl) rfl ?_))|(apply D7)|(apply H7)|(apply A7)|(apply D5))
  have e:(if x<1 then 1 else x)=max x 1:=by split<;>omega
  refine M3 (by (exact .inr rfl)) rfl N7 ?_
  rfl
theorem BK7 (G:Ctx) (H:List Ent) (s:Scr) (r c n:Int) (i x:ByteArray) (aa:Option Addr) (ac:Nat) (tb:Nat) (ga:Option Addr) (gn gc:Nat) (oa:Option Addr) (on oc:Nat) (pa:Option Addr) (pn pc:Nat) (t:ByteArray) (hw:s.w≤1000) (hh:s.h≤1000) (hm:s.modes=12) [h1:RdC G H aa (ints [r,c])] (hc:1≤c∧c≤1000) (hn:1≤n∧n≤1000):SC Tryz.prog G 168 [.pointer (some ⟨tb,0,none⟩),acV 4 72 0 i aa 2 ac x,.int .i64 n] (.blk tb 158 (trmC s ga gn gc oa on oc pa pn pc t)::H) fun v H'=>v= .bool true∧H'= .blk tb 158 (trmC (moveD s (n-1) (c-1)) ga gn gc oa on oc pa pn pc t)::H:=by
  have cP:=fun (H:List Ent) [RdC G H aa (ints [r,c])]=>AU8 G H [r,c] aa 2 ac rfl 1 c (by rw[if_pos ⟨by decide,by decide,by show c≠ -1;omega⟩];rfl)
  rw[show max c 1=c from by omega] at cP
  have cM:=fun H=>Bp0 G H s (n-1) (c-1) tb ga gn gc oa on oc pa pn pc t hw hh hm
  generalize trmC s ga gn gc oa on oc pa pn pc t=cs at *
  generalize trmC (moveD s (n-1) (c-1)) ga gn gc oa on oc pa pn pc t=cs2 at *
  refine AH0 Tryz.func168 rfl rfl rfl rfl rfl ?_
  repeat' (first|(apply F3;first|(apply C8;refine A8 ?_)|(apply E5;refine F5 rfl rfl rfl ?_;refine F7 rfl ?_)|(apply F4;refine F8 rfl rfl ?_;refine G6 rfl ?_)|(apply D6;refine D9 rfl rfl ?_)|(apply G7;refine G8 (E8 rfl rfl) rfl ?_)|(apply K9;refine O5 rfl rfl rfl rfl rfl rfl (fun _=>?_)))|(apply D7)|(apply G9)|(apply F6)|((fail_if_success (refine K3 (id:=24) ?_));apply A7)|(refine G5 rfl ?_;first|(apply I7)|(apply I5))|(apply D5))
  all_goals (skip)
  rename_i b4
  repeat' (first|(apply F3;first|(apply C8;refine A8 ?_)|(apply C9;refine D8 rfl rfl ?_)|(apply E5;refine F5 rfl rfl rfl ?_;apply y9;refine AA2 ⟨by omega,by omega⟩ ?_)|(apply F4;refine F8 rfl rfl ?_;refine G6 rfl ?_)|(apply D6;refine D9 rfl rfl ?_)|(apply G7;refine G8 (E8 rfl rfl) rfl ?_)|(apply H6;first|refine F9 rfl rfl rfl (cP _) rfl rfl ?_ |(refine c_call rfl rfl rfl (AC0 PickBlk.here (cM _)) rfl rfl ?_;rintro _ _ ⟨rfl,rfl⟩)))|(apply D7)|(apply H7)|(apply A7)|(apply D5)|(apply J2))
  all_goals (skip)
  refine M9 (.blk tb 158 cs2::H) (by (exact .inr rfl)) rfl I8 ?_
  exact⟨rfl,rfl⟩
theorem BI3 (G:Ctx) (H:List Ent) (p:Value) (n:Int) (k m:Int) (i x:ByteArray) (aa:Option Addr) (an ac:Nat):SV Tryz.prog G 168 [p,acV k 109 m i aa an ac x,.int .i64 n] H (.bool false):=by
  refine AC6 Tryz.func168 rfl rfl rfl rfl rfl ?_
  repeat' (first|(apply F3;first|(apply C8;refine A8 ?_)|(apply E5;refine F5 rfl rfl rfl ?_;refine F7 rfl ?_)|(apply F4;refine F8 rfl rfl ?_;refine G6 rfl ?_)|(apply D6;refine D9 rfl rfl ?_)|(apply G7;refine G8 (E8 rfl rfl) rfl ?_)|(apply K9;refine O5 rfl rfl rfl rfl rfl rfl (fun _=>?_)))|(apply D7)|(apply H7)|(apply F6)|(apply A7)|(refine G5 rfl ?_;apply I5)|(apply D5)|(apply J4)|(apply U1))
  all_goals (skip)
  refine M3 (by (exact .inr rfl)) rfl N7 ?_
  rfl
theorem BY4 (G:Ctx) (H:List Ent) (n k:Int) (tb:Nat) (cs:List Value) (w:Int) [hb:HasBlk H tb 158 cs] (hv:cs[0]? =some (.int .i64 w)):SV Tryz.prog G 169 [.pointer (some ⟨tb,0,none⟩),.int .i64 109,.int .i64 n,.int .i64 k] H (.bool false):=by
  refine BU6 Tryz.func169 rfl rfl rfl rfl rfl ?_
  repeat' (first|(apply F3;first|(apply C8;refine A8 ?_)|(apply C9;refine D8 rfl rfl ?_)|(apply E5;refine F5 rfl rfl rfl ?_;refine F7 rfl ?_)|(apply F4;refine F8 rfl rfl ?_;refine G6 hv ?_)|(apply D6;refine D9 rfl rfl ?_)|(apply G7;refine G8 (E8 rfl rfl) rfl ?_)|(apply K8;refine M8 (H8 rfl rfl) rfl ?_))|(apply D7)|(apply H7)|(apply F6)|(apply A7)|(refine G5 rfl ?_;apply I5)|(apply D5)|(apply J4)|(apply U1))
  all_goals (skip)
  refine M3 (by (exact .inr rfl)) rfl N7 ?_
  rfl
/-- Another pen. -/
def penD (s:Scr) (f r b:Int):Scr:={s with pf:=f,pr:=r,pb:=b}
theorem BX4 (G:Ctx) (H:List Ent) (s:Scr) (L:List Int) (n k:Int) (i x:ByteArray) (aa:Option Addr) (an ac:Nat) (tb:Nat) (ga:Option Addr) (gn gc:Nat) (oa:Option Addr) (on oc:Nat) (pa:Option Addr) (pn pc:Nat) (t:ByteArray) [h1:RdC G H aa (ints L)] (hn:an=L.length) (hm:an≤100) (f' r' b':Int) (hS:sgrV s.pf s.pr s.pb L= .tuple #[penV f' r' b',.int .i64 0]):SC Tryz.prog G 170 [.pointer (some ⟨tb,0,none⟩),acV 4 109 0 i aa an ac x,.int .i64 n,.int .i64 k] (.blk tb 158 (trmC s ga gn gc oa on oc pa pn pc t)::H) fun v H'=>v=resV []∧H'= .blk tb 158 (trmC (penD s f' r' b') ga gn gc oa on oc pa pn pc t)::H:=by
  have cS:=fun (H:List Ent) [RdC G H aa (ints L)]=>BI8 G H s.pf s.pr s.pb L aa an ac rfl hn (by unfold maxLen;omega)
  rw[hS] at cS
  clear hS hn
  unfold trmC
  refine BT8 Tryz.func170 rfl rfl rfl rfl rfl ?_
  repeat' (first|(apply F3;first|(apply C8;refine A8 ?_)|(apply C9;refine D8 rfl rfl ?_)|(apply E5;refine F5 rfl rfl rfl ?_;refine F7 rfl ?_)|(apply F4;refine F8 rfl rfl ?_;first|refine G6 rfl ?_ |refine K5 rfl ?_)|(apply D6;refine D9 rfl rfl ?_)|(apply G7;refine G8 (E8 rfl rfl) rfl ?_)|(apply K8;refine M8 (H8 rfl rfl) rfl ?_)|(apply H6;refine F9 rfl rfl rfl (cS _) rfl rfl ?_)|(apply H9;first|refine M6 rfl rfl rfl rfl rfl rfl rfl rfl ?_ |(refine AU3 rfl rfl rfl rfl rfl rfl rfl rfl rfl ?_))|(apply K9;refine O5 rfl rfl rfl rfl rfl rfl (fun _=>?_))|(apply L6;refine O0 rfl rfl rfl rfl (fun _=>?_)))|(apply U4;refine R5 (k:=0) I8 ?_)|(apply V6;first|(refine O9 rfl ?_)|(refine P8 rfl rfl rfl rfl (by kernel_rfl) (by decide+kernel) (by decide+kernel) ?_;first|(apply U5;refine I4 (V4 rfl rfl) ?_)|(apply U9;refine U6 rfl ?_;first|refine G6 rfl ?_ |refine L8 rfl rfl ?_)|(apply Z0;refine I4 (X7 rfl rfl) ?_)|(apply Q0;refine I4 (E8 rfl rfl) ?_)|(apply AO9;refine I4 (K7 rfl rfl rfl) ?_)|(apply Y7;refine I4 (H8 rfl rfl) ?_))|(refine P9 rfl ?_)|(refine R4 (by decide+kernel) ?_)|(refine S9 (by kernel_rfl) ?_))|(apply X4;first|(refine T9 rfl)|(refine U7 (by decide+kernel) ?_)|(refine U0 rfl ?_ ?_))|(apply D7)|(apply F6)|(apply A7)|(refine G5 rfl ?_;first|(apply I7)|(apply I5))|(apply D5)|(apply J2)|(refine K3 (id:=20) ?_;refine V3 _ (fun _ hw=>hw) ?_))
  all_goals (skip)
  all_goals
    refine M9 (.blk tb 158 (trmC (penD s f' r' b') ga gn gc oa on oc pa pn pc t)::H) (by (exact .inl rfl)) rfl I8 ?_
    exact⟨rfl,rfl⟩
theorem A73 (G:Ctx) (H:List Ent) (s:Scr) (r c:Int) (aa:Option Addr) (ac:Nat) (tb:Nat) (ga:Option Addr) (gn gc:Nat) (oa:Option Addr) (on oc:Nat) (pa:Option Addr) (pn pc:Nat) (t:ByteArray) (hw:s.w≤1000) (hh:s.h≤1000) (hm:s.modes=12) [h1:RdC G H aa (ints [r,c])] (hr:1≤r∧r≤1000) (hc:1≤c∧c≤1000):SC Tryz.prog G 110 [.pointer (some ⟨tb,0,none⟩),acV 4 72 0 e0 aa 2 ac e0] (.blk tb 158 (trmC s ga gn gc oa on oc pa pn pc t)::H) fun v H'=>v=resV []∧H'= .blk tb 158 (trmC (moveD s (r-1) (c-1)) ga gn gc oa on oc pa pn pc t)::H:=by
  have cP:=fun (H:List Ent) [RdC G H aa (ints [r,c])]=>AU8 G H [r,c] aa 2 ac rfl 0 r (by rw[if_pos ⟨by decide,by decide,by show r≠ -1;omega⟩];rfl)
  rw[show max r 1=r from by omega] at cP
  have cG:=fun (H:List Ent) [RdC G H aa (ints [r,c])]=>Aa4 G H [r,c] aa 2 ac rfl 0 0
  have cC:=fun (H:List Ent) [RdC G H aa (ints [r,c])]=>BK7 G H s r c r e0 e0 aa ac tb ga gn gc oa on oc pa pn pc t hw hh hm hc hr
  generalize (if 0≤(0:Int)∧(0:Int)<(2:Nat)∧[r,c].getD (0:Int).toNat 0≠ -1 then [r,c].getD (0:Int).toNat 0 else 0)=kk at *
  generalize trmC s ga gn gc oa on oc pa pn pc t=cs at *
  generalize trmC (moveD s (r-1) (c-1)) ga gn gc oa on oc pa pn pc t=cs2 at *
  unfold acV
  refine J3 Tryz.func110 rfl rfl rfl rfl rfl ?_
  repeat' (first|(apply F3;first|(apply C8;refine A8 ?_)|(apply C9;refine D8 rfl rfl ?_)|(apply E5;refine F5 rfl rfl rfl ?_;refine F7 rfl ?_)|(apply F4;refine F8 rfl rfl ?_;first|refine G6 rfl ?_ |refine K5 rfl ?_)|(apply D6;refine D9 rfl rfl ?_)|(apply I6;refine I9 rfl rfl ?_;apply O1;refine O3 rfl ?_)|(apply G7;refine G8 (E8 rfl rfl) rfl ?_)|(apply Y0;refine Z8 (Z7 rfl rfl rfl) rfl ?_)|(apply H6;first|refine F9 rfl rfl rfl (cP _) rfl rfl ?_ |refine F9 rfl rfl rfl (cG _) rfl rfl ?_ |(refine c_call rfl rfl rfl (AC0 PickBlk.here (cC _)) rfl rfl ?_;rintro _ _ ⟨rfl,rfl⟩))|(apply K9;refine O5 rfl rfl rfl rfl rfl rfl (fun _=>?_))|(apply I1;refine J9 rfl rfl rfl rfl ?_;apply I5))|(apply U4;refine R5 (k:=0) I8 ?_)|(apply V6;first|(refine O9 rfl ?_)|(refine P8 rfl rfl rfl rfl (by kernel_rfl) (by decide+kernel) (by decide+kernel) ?_;first|(apply U9;refine U6 rfl ?_;refine G6 rfl ?_)|(apply Z0;refine I4 (X7 rfl rfl) ?_)|(apply Q0;refine I4 (E8 rfl rfl) ?_))|(refine P9 rfl ?_)|(refine R4 (by decide+kernel) ?_)|(refine S9 (by kernel_rfl) ?_))|(apply X4;first|(refine T9 rfl)|(refine U7 (by decide+kernel) ?_)|(refine U0 rfl ?_ ?_))|(apply D7)|(apply G9)|(apply F6)|(apply A7)|(refine G5 rfl ?_;first|(apply I7)|(apply I5))|(apply D5)|(apply J2)|(refine K3 (id:=1) ?_;refine V3 _ (fun _ hw=>hw) ?_))
  all_goals (skip)
  all_goals
    refine M9 (.blk tb 158 cs2::H) (by (exact .inl rfl)) rfl I8 ?_
    exact⟨rfl,rfl⟩
theorem A23 (G:Ctx) (H:List Ent) (s:Scr) (L:List Int) (aa:Option Addr) (an ac:Nat) (tb:Nat) (ga:Option Addr) (gn gc:Nat) (oa:Option Addr) (on oc:Nat) (pa:Option Addr) (pn pc:Nat) (t:ByteArray) [h1:RdC G H aa (ints L)] (hn:an=L.length) (hm:an≤100) (f' r' b':Int) (hS:sgrV s.pf s.pr s.pb L= .tuple #[penV f' r' b',.int .i64 0]):SC Tryz.prog G 110 [.pointer (some ⟨tb,0,none⟩),acV 4 109 0 e0 aa an ac e0] (.blk tb 158 (trmC s ga gn gc oa on oc pa pn pc t)::H) fun v H'=>v=resV []∧H'= .blk tb 158 (trmC (penD s f' r' b') ga gn gc oa on oc pa pn pc t)::H:=by
  obtain⟨x0,hx0⟩:∃x,(if 0≤(0:Int)∧(0:Int)<an∧L.getD (0:Int).toNat 0≠ -1 then L.getD (0:Int).toNat 0 else 1)=x:=⟨_,rfl⟩
  have cP:=fun (H:List Ent) [RdC G H aa (ints L)]=>AU8 G H L aa an ac hn 0 x0 hx0
  have cG:=fun (H:List Ent) [RdC G H aa (ints L)]=>Aa4 G H L aa an ac hn 0 0
  generalize (if 0≤(0:Int)∧(0:Int)<an∧L.getD (0:Int).toNat 0≠ -1 then L.getD (0:Int).toNat 0 else 0)=kk at *
  generalize max x0 1=nn at *
  clear hx0
  have cC:=fun (H:List Ent)=>BI3 G H (.pointer (some ⟨tb,0,none⟩)) nn 4 0 e0 e0 aa an ac
  have cE:=fun (H:List Ent) [HasBlk H tb 158 (trmC s ga gn gc oa on oc pa pn pc t)]=>BY4 G H nn kk tb (trmC s ga gn gc oa on oc pa pn pc t) s.w rfl
  have cO:=fun (H:List Ent) [RdC G H aa (ints L)]=>BX4 G H s L nn kk e0 e0 aa an ac tb ga gn gc oa on oc pa pn pc t hn hm f' r' b' hS
  generalize trmC s ga gn gc oa on oc pa pn pc t=cs at *
  generalize trmC (penD s f' r' b') ga gn gc oa on oc pa pn pc t=cs2 at *
  clear hS
  unfold acV at *
  refine J3 Tryz.func110 rfl rfl rfl rfl rfl ?_
  repeat' (first|(apply F3;first|(apply C8;refine A8 ?_)|(apply C9;refine D8 rfl rfl ?_)|(apply E5;refine F5 rfl rfl rfl ?_;refine F7 rfl ?_)|(apply F4;refine F8 rfl rfl ?_;first|refine G6 rfl ?_ |refine K5 rfl ?_)|(apply D6;refine D9 rfl rfl ?_)|(apply I6;refine I9 rfl rfl ?_;apply Q9;refine Q8 rfl ?_)|(apply G7;refine G8 (E8 rfl rfl) rfl ?_)|(apply Y0;refine Z8 (Z7 rfl rfl rfl) rfl ?_)|(apply H6;first|refine F9 rfl rfl rfl (cP _) rfl rfl ?_ |refine F9 rfl rfl rfl (cG _) rfl rfl ?_ |refine F9 rfl rfl rfl (cC _) rfl rfl ?_ |refine F9 rfl rfl rfl (cE _) rfl rfl ?_ |(refine c_call rfl rfl rfl (AC0 PickBlk.here (cO _)) rfl rfl ?_;rintro _ _ ⟨rfl,rfl⟩))|(apply K9;refine O5 rfl rfl rfl rfl rfl rfl (fun _=>?_))|(apply I1;refine J9 rfl rfl rfl rfl ?_;apply I7))|(apply U4;refine R5 (k:=0) I8 ?_)|(apply V6;first|(refine O9 rfl ?_)|(refine P8 rfl rfl rfl rfl (by kernel_rfl) (by decide+kernel) (by decide+kernel) ?_;first|(apply U9;refine U6 rfl ?_;refine G6 rfl ?_)|(apply Z0;refine I4 (X7 rfl rfl) ?_)|(apply Q0;refine I4 (E8 rfl rfl) ?_))|(refine P9 rfl ?_)|(refine R4 (by decide+kernel) ?_)|(refine S9 (by kernel_rfl) ?_))|(apply X4;first|(refine T9 rfl)|(refine U7 (by decide+kernel) ?_)|(refine U0 rfl ?_ ?_))|(apply D7)|(apply F6)|(apply A7)|(refine G5 rfl ?_;apply I7)|(apply D5)|(apply J2)|(refine K3 (id:=1) ?_;refine V3 _ (fun _ hw=>hw) ?_))
  all_goals (skip)
  all_goals
    refine M9 (.blk tb 158 cs2::H) (by (exact .inl rfl)) rfl I8 ?_
    exact⟨rfl,rfl⟩
theorem Bs8 (G:Ctx) (H:List Ent) (s:Scr) (r c:Int) (aa:Option Addr) (ac:Nat) (tb:Nat) (ga:Option Addr) (gn gc:Nat) (oa:Option Addr) (on oc:Nat) (pa:Option Addr) (pn pc:Nat) (t:ByteArray) (hw:s.w≤1000) (hh:s.h≤1000) (hm:s.modes=12) [h1:RdC G H aa (ints [r,c])] (hr:1≤r∧r≤1000) (hc:1≤c∧c≤1000):SC Tryz.prog G 58 [.pointer (some ⟨tb,0,none⟩),acV 4 72 0 e0 aa 2 ac e0] (.blk tb 158 (trmC s ga gn gc oa on oc pa pn pc t)::H) fun v H'=>v=resV []∧H'= .blk tb 158 (trmC (moveD s (r-1) (c-1)) ga gn gc oa on oc pa pn pc t)::H:=by
  have cC:=fun (H:List Ent) [RdC G H aa (ints [r,c])]=>A73 G H s r c aa ac tb ga gn gc oa on oc pa pn pc t hw hh hm hr hc
  generalize trmC s ga gn gc oa on oc pa pn pc t=cs at *
  generalize trmC (moveD s (r-1) (c-1)) ga gn gc oa on oc pa pn pc t=cs2 at *
  unfold acV at *
  refine J3 Tryz.func58 rfl rfl rfl rfl rfl ?_
  repeat' (first|(apply F3;first|(apply C8;refine A8 ?_)|(apply C9;refine D8 rfl rfl ?_)|(apply E5;refine F5 rfl rfl rfl ?_;first|(refine BC8 rfl ?_)|(refine F7 rfl ?_))|(apply F4;refine F8 rfl rfl ?_;first|refine G6 rfl ?_ |refine K5 rfl ?_)|(apply D6;refine D9 rfl rfl ?_)|(apply I6;refine I9 rfl rfl ?_;first|(apply Q9;refine Q8 rfl ?_)|(apply O1;refine O3 rfl ?_))|(apply G7;refine G8 (E8 rfl rfl) rfl ?_)|(apply H6;refine c_call rfl rfl rfl (AC0 PickBlk.here (cC _)) rfl rfl ?_;rintro _ _ ⟨rfl,rfl⟩)|(apply K9;refine O5 rfl rfl rfl rfl rfl rfl (fun _=>?_))|(apply I1;refine J9 rfl rfl rfl rfl ?_;first|(apply I7)|(apply I5)))|(apply D7)|(apply F6)|(apply A7)|(refine G5 rfl ?_;first|(apply I7)|(apply I5))|(apply D5)|(apply J2))
  all_goals (skip)
  all_goals
    refine M9 (.blk tb 158 cs2::H) (by (exact .inl rfl)) rfl I8 ?_
    exact⟨rfl,rfl⟩
theorem Bv3 (G:Ctx) (H:List Ent) (s:Scr) (L:List Int) (aa:Option Addr) (an ac:Nat) (tb:Nat) (ga:Option Addr) (gn gc:Nat) (oa:Option Addr) (on oc:Nat) (pa:Option Addr) (pn pc:Nat) (t:ByteArray) [h1:RdC G H aa (ints L)] (hn:an=L.length) (hm:an≤100) (f' r' b':Int) (hS:sgrV s.pf s.pr s.pb L= .tuple #[penV f' r' b',.int .i64 0]):SC Tryz.prog G 58 [.pointer (some ⟨tb,0,none⟩),acV 4 109 0 e0 aa an ac e0] (.blk tb 158 (trmC s ga gn gc oa on oc pa pn pc t)::H) fun v H'=>v=resV []∧H'= .blk tb 158 (trmC (penD s f' r' b') ga gn gc oa on oc pa pn pc t)::H:=by
  have cC:=fun (H:List Ent) [RdC G H aa (ints L)]=>A23 G H s L aa an ac tb ga gn gc oa on oc pa pn pc t hn hm f' r' b' hS
  generalize trmC s ga gn gc oa on oc pa pn pc t=cs at *
  generalize trmC (penD s f' r' b') ga gn gc oa on oc pa pn pc t=cs2 at *
  clear hS
  unfold acV at *
  refine J3 Tryz.func58 rfl rfl rfl rfl rfl ?_
  repeat' (first|(apply F3;first|(apply C8;refine A8 ?_)|(apply C9;refine D8 rfl rfl ?_)|(apply E5;refine F5 rfl rfl rfl ?_;first|(refine BC8 rfl ?_)|(refine F7 rfl ?_))|(apply F4;refine F8 rfl rfl ?_;first|refine G6 rfl ?_ |refine K5 rfl ?_)|(apply D6;refine D9 rfl rfl ?_)|(apply I6;refine I9 rfl rfl ?_;first|(apply Q9;refine Q8 rfl ?_)|(apply O1;refine O3 rfl ?_))|(apply G7;refine G8 (E8 rfl rfl) rfl ?_)|(apply H6;refine c_call rfl rfl rfl (AC0 PickBlk.here (cC _)) rfl rfl ?_;rintro _ _ ⟨rfl,rfl⟩)|(apply K9;refine O5 rfl rfl rfl rfl rfl rfl (fun _=>?_))|(apply I1;refine J9 rfl rfl rfl rfl ?_;first|(apply I7)|(apply I5)))|(apply D7)|(apply F6)|(apply A7)|(refine G5 rfl ?_;first|(apply I7)|(apply I5))|(apply D5)|(apply J2))
  all_goals (skip)
  all_goals
    refine M9 (.blk tb 158 cs2::H) (by (exact .inl rfl)) rfl I8 ?_
    exact⟨rfl,rfl⟩
end
section
set_option maxHeartbeats 2000000
/-- What an act that draws may be, where it stands. -/
def okD (s:Scr) (y:Pa):Prop:=
  (∃c,y=(1,c,0,e0,[],e0)∧s.late=false∧0≤c∧(H5 c=1∨H5 c=2)∧s.col+H5 c≤s.w)∨
  (∃r c,y=(4,72,0,e0,[r,c],e0)∧(1≤r∧r≤s.h)∧(1≤c∧c≤s.w))∨
  (∃L,y=(4,109,0,e0,L,e0)∧(1≤L.length∧L.length≤32)∧(∀x∈L,-1≤x∧x≤16383)∧penB (sgrL (s.pf,s.pr,s.pb) L).1 (sgrL (s.pf,s.pr,s.pb) L).2.1 (sgrL (s.pf,s.pr,s.pb) L).2.2=true)
/-- What it does. -/
def stepD (s:Scr) (y:Pa):Scr:=
  if y.1=1 then putD s y.2.1
  else if y.2.1=72 then moveD s (y.2.2.2.2.1.getD 0 0-1) (y.2.2.2.2.1.getD 1 0-1)
  else penD s (sgrL (s.pf,s.pr,s.pb) y.2.2.2.2.1).1 (sgrL (s.pf,s.pr,s.pb) y.2.2.2.2.1).2.1 (sgrL (s.pf,s.pr,s.pb) y.2.2.2.2.1).2.2
def runD (s:Scr) (A:List Pa):Scr:=A.foldl stepD s
def goodD (s:Scr):List Pa→Prop
  | []=>True
  | y::A=>okD s y∧goodD (stepD s y) A
theorem AJ7 (s:Scr) (A B:List Pa):runD s (A++B)=runD (runD s A) B:=List.foldl_append
theorem AD8:∀(A B:List Pa) (s:Scr),goodD s (A++B)↔goodD s A∧goodD (runD s A) B
  | [],B,s=>by simp [goodD,runD]
  | y::A,B,s=>by
    show okD s y∧goodD (stepD s y) (A++B)↔(okD s y∧goodD (stepD s y) A)∧goodD (runD (stepD s y) A) B
    rw[AD8 A B (stepD s y),and_assoc]
theorem A12 {s:Scr} {A:List Pa} {k:Nat} {y:Pa} (h:goodD s A) (hy:A[k]? =some y):okD (runD s (A.take k)) y∧runD s (A.take (k+1))=stepD (runD s (A.take k)) y:=by
  have hk:=(List.getElem?_eq_some_iff.1 hy).1
  have e:A.take (k+1)=A.take k++[y]:=by rw[List.take_add_one,hy];rfl
  rw[←List.take_append_drop (k+1) A,e,List.append_assoc] at h
  have h1:=((AD8 _ _ _).1 h).2
  refine⟨h1.1,?_⟩
  rw[e,AJ7]
  rfl
theorem Bd1 {f r b:Int} (h:penB f r b=true):penB 0 0 b=true:=by
  have h:=(AM1 f r b).1 h
  exact(AM1 0 0 b).2 ⟨⟨by decide,by decide⟩,.inl ⟨by decide,by decide⟩,h.2.2⟩
theorem Fre.putD {s:Scr} (f:Fre s) {c:Int} (hw:H5 c=1∨H5 c=2):Fre (putD s c):=by
  have hz:=f.pl.g.size
  have hro:=f.pl.row
  have hco:=f.pl.col
  have hk:s.row.toNat<s.h:=by omega
  have hlen:(putQ H5 (rowQ s.w s.C s.row.toNat) s.col.toNat c s.pf s.pr s.pb).length=s.w:=by rw[A26,j5 hk f.pl.g.len]
  have hpen:penB s.pf s.pr s.pb=true:=f.pl.pen.1
  have hc0:=Av1 (Au7 (c:=s.col.toNat) (f.pl.g.cels hk) hpen (show H5 c≠0 by omega))
  rw[hlen] at hc0
  have hg:=f.pl.g.putRow hk (R':=mendQ H5 (putQ H5 (rowQ s.w s.C s.row.toNat) s.col.toNat c s.pf s.pr s.pb)) (by rw[AM7,hlen]) hc0
  refine⟨⟨hg,f.pl.row,?_,f.pl.modes,f.pl.sh,f.pl.p0,f.pl.pen,f.pl.top,f.pl.bot,f.pl.past⟩,f.o,?_,f.p1,f.sv,f.ti,f.rows⟩
  · show 0≤(if s.col+H5 c>(s.w:Int)-1 then (s.w:Int)-1 else s.col+H5 c)∧(if s.col+H5 c>(s.w:Int)-1 then (s.w:Int)-1 else s.col+H5 c)<(s.w:Int)
    split<;>omega
  · intro h
    have h:s.col+H5 c>(s.w:Int)-1:=of_decide_eq_true h
    show (if s.col+H5 c>(s.w:Int)-1 then (s.w:Int)-1 else s.col+H5 c)=(s.w:Int)-1
    rw[if_pos h]
theorem Fre.moveD {s:Scr} (f:Fre s) (r c:Int):Fre (moveD s r c):=by
  have hz:=f.pl.g.size
  refine⟨⟨f.pl.g,?_,?_,f.pl.modes,f.pl.sh,f.pl.p0,f.pl.pen,f.pl.top,f.pl.bot,f.pl.past⟩,f.o,(fun h=>by cases h),f.p1,f.sv,f.ti,f.rows⟩
  · show 0≤l6 r 0 ((s.h:Int)-1)∧l6 r 0 ((s.h:Int)-1)<(s.h:Int)
    unfold l6;omega
  · show 0≤l6 c 0 ((s.w:Int)-1)∧l6 c 0 ((s.w:Int)-1)<(s.w:Int)
    unfold l6;omega
theorem Fre.penD {s:Scr} (f:Fre s) {x y z:Int} (h:penB x y z=true):Fre (penD s x y z):=
  ⟨⟨f.pl.g,f.pl.row,f.pl.col,f.pl.modes,f.pl.sh,f.pl.p0,⟨h,Bd1 h⟩,f.pl.top,f.pl.bot,f.pl.past⟩,f.o,f.late,f.p1,f.sv,f.ti,f.rows⟩
theorem Fre.stepD {s:Scr} (f:Fre s) {y:Pa} (h:okD s y):Fre (stepD s y):=by
  rcases h with ⟨c,rfl,-,-,hw,-⟩|⟨r,c,rfl,-,-⟩|⟨L,rfl,-,-,hp⟩
  · exact f.putD hw
  · exact f.moveD _ _
  · exact f.penD hp
theorem BH2 (s:Scr) (y:Pa):(stepD s y).w=s.w∧(stepD s y).h=s.h∧(stepD s y).D=s.D∧(stepD s y).past=s.past:=by
  unfold stepD
  split
  · exact⟨rfl,rfl,rfl,rfl⟩
  · split<;>exact⟨rfl,rfl,rfl,rfl⟩
theorem AP6:∀(A:List Pa) (s:Scr),(runD s A).w=s.w∧(runD s A).h=s.h∧(runD s A).D=s.D∧(runD s A).past=s.past
  | [],s=>⟨rfl,rfl,rfl,rfl⟩
  | y::A,s=>by
    obtain⟨a,b,c,d⟩:=AP6 A (stepD s y)
    obtain⟨a2,b2,c2,d2⟩:=BH2 s y
    exact⟨a.trans a2,b.trans b2,c.trans c2,d.trans d2⟩
theorem Ai8:∀(A:List Pa) (s:Scr),Fre s→goodD s A→Fre (runD s A)
  | [],_,f,_=>f
  | y::A,s,f,h=>by
    have h2:=Ai8 A (stepD s y) (f.stepD h.1) h.2
    exact h2
attribute [local irreducible] SW SL SQ AtQ SV SC BB LD PK Yields SO SOT SOA SY
theorem Bu8 (G:Ctx) (H:List Ent) (c m:Int) (i x:ByteArray) (aa:Option Addr) (an ac:Nat) (tb:Nat) (cs cs2:List Value) (gb gn gc:Nat) (q q2:List Value)
    (cP:∀H,SC Tryz.prog G 105 [.pointer (some ⟨tb,0,none⟩),.int .i64 c] (.blk tb 158 cs:: .own 97 4 (some ⟨gb,0,none⟩) gn gc q::H) fun v H'=>v=resV []∧H'= .blk tb 158 cs2:: .own 97 4 (some ⟨gb,0,none⟩) gn gc q2::H):
    SC Tryz.prog G 58 [.pointer (some ⟨tb,0,none⟩),acV 1 c m i aa an ac x] (.blk tb 158 cs:: .own 97 4 (some ⟨gb,0,none⟩) gn gc q::H) fun v H'=>v=resV []∧H'= .blk tb 158 cs2:: .own 97 4 (some ⟨gb,0,none⟩) gn gc q2::H:=by
  unfold acV
  refine J3 Tryz.func58 rfl rfl rfl rfl rfl ?_
  repeat' (first|(apply F3;first|(apply C8;refine A8 ?_)|(apply E5;refine F5 rfl rfl rfl ?_;refine F7 rfl ?_)|(apply F4;refine F8 rfl rfl ?_;refine G6 rfl ?_)|(apply D6;refine D9 rfl rfl ?_)|(apply G7;refine G8 (E8 rfl rfl) rfl ?_)|(apply K9;refine O5 rfl rfl rfl rfl rfl rfl (fun _=>?_)))|(apply D7)|(apply F6)|((fail_if_success (refine K3 (id:=2) ?_));apply A7)|(refine G5 rfl ?_;apply I7)|(apply D5))
  all_goals (skip)
  rename_i b
  refine AF1 (.blk tb 158 cs:: .own 97 4 (some ⟨gb,0,none⟩) gn gc q:: .blk b 160 [.int .i64 1,.int .i64 c,.int .i64 m,.string i,.slice aa an ac,.string x]::H) I8 ?_
  repeat' (first|(apply F3;first|(apply C8;refine A8 ?_)|(apply C9;refine D8 rfl rfl ?_)|(apply F4;refine F8 rfl rfl ?_;refine G6 rfl ?_)|(apply G7;refine G8 (E8 rfl rfl) rfl ?_)|(apply H6;refine c_call rfl rfl rfl (cP _) rfl rfl ?_;rintro _ _ ⟨rfl,rfl⟩))|(apply A7)|(apply J2))
  all_goals (skip)
  refine M9 (.blk tb 158 cs2:: .own 97 4 (some ⟨gb,0,none⟩) gn gc q2::H) (by (exact .inl rfl)) rfl I8 ?_
  exact⟨rfl,rfl⟩
/-- One act that draws, done. -/
theorem Bx9 (G:Ctx) (K:List Ent) (s:Scr) (f:Fre s) (y:Ac) (hy:okD s (plA y)) (tb gb gn gc:Nat) (oa:Option Addr) (on oc:Nat) (pa:Option Addr) (pn pc:Nat) (t:ByteArray) (hgn:gn=s.C.length) (hgc:gn≤gc) [h1:RdC G K y.2.2.2.2.1.1 (ints y.2.2.2.2.1.2.2)]:
    SC Tryz.prog G 58 [.pointer (some ⟨tb,0,none⟩),acV y.1 y.2.1 y.2.2.1 y.2.2.2.1 y.2.2.2.2.1.1 y.2.2.2.2.1.2.2.length y.2.2.2.2.1.2.1 y.2.2.2.2.2] (.blk tb 158 (trmC s (some ⟨gb,0,none⟩) gn gc oa on oc pa pn pc t):: .own 97 4 (some ⟨gb,0,none⟩) gn gc (qds s.C)::K) fun v H'=>v=resV []∧H'= .blk tb 158 (trmC (stepD s (plA y)) (some ⟨gb,0,none⟩) gn gc oa on oc pa pn pc t):: .own 97 4 (some ⟨gb,0,none⟩) gn gc (qds (stepD s (plA y)).C)::K:=by
  have hz:=f.pl.g.size
  obtain⟨k,c,m,i,⟨a,ac,L⟩,x⟩:=y
  unfold plA at hy ⊢
  dsimp only at hy h1 ⊢
  rcases hy with ⟨c',he,hl,hc0,hw,hc⟩|⟨r,c',he,hr,hc⟩|⟨L',he,hl,hx,hp⟩
  · simp only[Prod.mk.injEq] at he
    obtain⟨rfl,rfl,rfl,rfl,rfl,rfl⟩:=he
    exact Bu8 G K c 0 e0 e0 a 0 ac tb _ _ gb gn gc _ _ (fun H=>BR5 G H s c (H5 c) tb gb gn gc oa on oc pa pn pc t hc0 hw rfl hl f.pl.g hgn hgc f.pl.row ⟨f.pl.col.1,hc⟩ f.pl.modes f.pl.sh f.pl.p0)
  · simp only[Prod.mk.injEq] at he
    obtain⟨rfl,rfl,rfl,rfl,rfl,rfl⟩:=he
    exact Bs8 G _ s r c' a ac tb (some ⟨gb,0,none⟩) gn gc oa on oc pa pn pc t (by omega) (by omega) f.pl.modes (by omega) (by omega)
  · simp only[Prod.mk.injEq] at he
    obtain⟨rfl,rfl,rfl,rfl,rfl,rfl⟩:=he
    refine Bv3 G _ s L a L.length ac tb (some ⟨gb,0,none⟩) gn gc oa on oc pa pn pc t rfl (by omega) _ _ _ ?_
    unfold sgrV
    rw[if_neg (by rw[f.pl.pen.1];simp),if_neg,if_neg (by omega)]
    rintro (h|h)
    · omega
    · rw[List.any_eq_true] at h
      obtain⟨z,hz1,hz2⟩:=h
      have:=hx z hz1
      unfold AD3 at hz2
      have:=of_decide_eq_true hz2
      omega
end
end Go.Proofs.YtmmnimagbnlcmaaGreatDoor
section
namespace Go.Sx
open Go Go.RowKit Go.Fw
/-- A block and a row pulled to the front. -/
theorem AN8 {P:Program} {G:Ctx} {f:FuncId} {args:List Value} {H H1 H2:List Ent} {tb:Nat} {t:TypeId} {cs:List Value} {a1:Option Addr} {e1 s1 n1 c1:Nat} {x1:List Value} {R:Value→List Ent→Prop}
    [p1:PickBlk H tb t cs H1] [p2:PickOwn H1 a1 e1 s1 n1 c1 x1 H2] (h:SC P G f args (.blk tb t cs:: .own e1 s1 a1 n1 c1 x1::H2) R):SC P G f args H R:=
  ⟨h.1,fun w hw=>h.2 w ((hw.pick p1.here).perm ((p2.here.perm).cons _))⟩
end Go.Sx
namespace Go.Proofs.YtmmnimagbnlcmaaGreatDoor
open Go Go.RowKit Go.Fw Go.Sx
set_option maxRecDepth 100000
set_option maxHeartbeats 2000000
attribute [local irreducible] SW SL SQ AtQ SV SC BB LD PK Yields SO SOT SOA SY
theorem Am3 (G:Ctx) (H:List Ent) (n lo hi:Int):SV Tryz.prog G 60 [.int .i64 n,.int .i64 lo,.int .i64 hi] H (.bool (decide (lo≤n∧n≤hi))):=by
  refine AC6 Tryz.func60 rfl rfl rfl rfl rfl ?_
  repeat' (first|(apply F3;first|(apply C8;refine A8 ?_)|(apply C9;refine D8 rfl rfl ?_)|(apply E5;refine F5 rfl rfl rfl ?_;refine F7 rfl ?_)|(apply D6;refine D9 rfl rfl ?_)|(apply I6;refine I9 rfl rfl ?_;first|(apply Q9;refine Q8 rfl ?_)|(apply O1;refine O3 rfl ?_))|(apply I1;refine J9 rfl rfl rfl rfl ?_;first|(apply I7)|(apply I5)|(apply E9<;>intro hq<;>(try (exfalso;omega)))))|(apply D7)|(apply H7)|(apply A7)|(apply D5))
  all_goals
    refine M3 (by (exact .inr rfl)) rfl N7 ?_
    simp [resV]
  all_goals omega
theorem BV3 (G:Ctx) (H:List Ent) (x:Int):SV Tryz.prog G 104 [.int .i64 x] H (.bool (AD3 x)):=by
  have cW:=fun H=>Am3 G H x (-1) 16383
  have e:(!decide (-1≤x∧x≤16383))=AD3 x:=by
    unfold AD3
    by_cases h: -1≤x∧x≤16383
    · rw[decide_eq_true h,decide_eq_false (by omega)];rfl
    · rw[decide_eq_false h,decide_eq_true (by omega)];rfl
  rw[←e]
  generalize decide (-1≤x∧x≤16383)=b at *
  refine M5 Tryz.func104 rfl rfl rfl rfl rfl ?_
  repeat' (first|(apply F3;first|(apply C8;refine A8 ?_)|(apply C9;refine D8 rfl rfl ?_)|(apply D6;refine D9 rfl rfl ?_)|(apply Y0;refine Z8 (Z7 rfl rfl rfl) rfl ?_)|(apply H6;refine F9 rfl rfl rfl (cW _) rfl rfl ?_))|(apply D7)|(apply H7)|(apply A7)|(apply D5))
  refine M3 (by (exact .inr rfl)) rfl N7 ?_
  rfl
/-- Acts whose numbers are few and small, without texts. -/
def Az2 (y:Ac):Prop:=y.2.2.2.2.1.2.2.length≤32∧(∀x∈y.2.2.2.2.1.2.2,-1≤x∧x≤16383)∧y.2.2.2.2.2=e0
theorem BC2 (G:Ctx) (H:List Ent) (A:List Ac) {vs:List Value} (a:Option Addr) (n c:Nat) [h1:RdC G H a vs] (hv:vs=acs A) (hn:n=A.length) (hm:n≤9000000) (hb:∀y∈A,Az2 y) (hr:∀y∈A,Sl ints G H y.2.2.2.2.1):SV Tryz.prog G 57 [.slice a n c] H (.int .i64 0):=by
  have hlx:vs.length=n * 6:=by rw[hv,Af8,hn]
  have hel:∀(k:Nat) x,A[k]? =some x→take? (vs.drop ((k:Int).toNat * 6)) 6=some (acC x):=fun k x hx=>by subst hv;exact AX0 hx
  have Hn:=Lib.hid hn
  clear hn hv
  refine M5 Tryz.func57 rfl rfl rfl rfl rfl ?_
  repeat' (first|(apply F3;first|(apply C8;refine A8 ?_)|(apply C9;refine D8 rfl rfl ?_)|(apply D6;refine D9 rfl rfl ?_)|(apply J5;refine s_call (Q5 rfl rfl) rfl ?_))|(apply D7)|(apply F6)|((fail_if_success (refine K3 (id:=2) ?_));apply A7)|(apply D5))
  refine R9 (α:=Nat) (fun k=>[(0,.slice a n c),(5,.slice a n c),(6,.int .i64 n),(7,.int .i64 k)]) (fun _=>H)
    (fun k=>k≤n) (fun k=>n-k) 0 (Nat.zero_le _) (by repeat (first|exact Le.nil _|refine Le.cons (by (rfl)) ?_)) I8 ?_
  intro k hk
  by_cases hlt:(k:Int)<n
  · obtain⟨x,hx⟩:=AA3 (X:=A) (k:=k) (by rw[←Hn.out];omega)
    have e1:=hel k x hx
    have hbx:=hb x (List.mem_of_getElem? hx)
    have hrx:=hr x (List.mem_of_getElem? hx)
    obtain⟨kk,cc,mm,ii,⟨ra,rc,L⟩,tt⟩:=x
    obtain⟨h2,h3,h4⟩:=hbx
    dsimp only at h2 h3 h4 hrx
    subst h4
    have hany:L.any AD3=false:=by
      rw[List.any_eq_false]
      intro x hx
      have:=h3 x hx
      unfold AD3
      simp only[decide_eq_true_eq]
      omega
    have hi:=hrx.rd
    dsimp only at hi
    have cF:=fun (H:List Ent) [RdC G H ra (ints L)]=>AR7 G H 104 AD3 L ra L.length rc rfl rfl (by unfold maxLen;omega) (fun H x _=>BV3 G H x)
    rw[hany] at cF
    have e1:take? (vs.drop ((k:Int).toNat * 6)) 6=some [.int .i64 kk,.int .i64 cc,.int .i64 mm,.string ii,.slice ra L.length rc,.string e0]:=e1
    clear hel hb hx hr hrx h3 hany
    generalize L.length=ln at *
    repeat' (first|(apply F3;first|(apply C8;refine A8 ?_)|(apply C9;refine D8 rfl rfl ?_)|(apply E5;refine F5 rfl rfl rfl ?_;first|(apply M0;refine L9 ⟨by omega,by omega⟩ ?_)|refine F7 rfl ?_)|(apply F4;first|(refine F8 rfl rfl ?_;refine G6 rfl ?_)|(refine F8 rfl rfl ?_;refine Y5 e1 rfl ?_))|(apply I6;refine I9 rfl rfl ?_;apply O1;refine O3 rfl ?_)|(apply G7;refine G8 (E8 rfl rfl) rfl ?_)|(apply M4;refine N9 (K6 rfl rfl rfl hlx (by omega) (by omega)) rfl ?_)|(apply H6;refine F9 rfl rfl rfl (cF _) rfl rfl ?_)|(apply J5;first|refine s_call (Q5 rfl rfl) rfl ?_ |refine s_call (Q3 rfl rfl) rfl ?_)|(apply H9;refine M6 rfl rfl rfl rfl rfl rfl rfl rfl ?_)|(apply L6;refine O0 rfl rfl rfl rfl (fun _=>?_))|(apply I1;refine J9 rfl rfl rfl rfl ?_;first|(apply I7)|(apply O8<;>intro hq<;>(try (exfalso;omega)))))|(apply D7)|(apply G9)|(apply F6)|(apply A7)|(refine G5 rfl ?_;first|(apply I5)|(apply E9<;>intro hq<;>(try (exfalso;omega))))|(apply D5)|(apply J2))
    all_goals (skip)
    exact J6 (k+1) ⟨by omega,by omega⟩ (by repeat (first|exact Le.nil _|refine Le.cons (by (rfl)) ?_)) I8
  · obtain rfl:k=n:=by omega
    repeat' (first|(apply F3;first|(apply C8;refine A8 ?_)|(apply E5;refine F5 rfl rfl rfl ?_;refine F7 rfl ?_)|(apply D6;refine D9 rfl rfl ?_))|(apply D7)|(apply H7)|(apply N8)|(apply A7)|(refine G5 rfl ?_;apply E9<;>intro hq<;>(try (exfalso;omega)))|(apply D5)|(apply J7)|(apply J8))
    all_goals (skip)
    refine M3 (by (exact .inr rfl)) rfl N7 ?_
    rfl
theorem Bx2 (G:Ctx) (H:List Ent) (s:Scr) (f:Fre s) (X:List (Rx Qd)) (ga:Option Addr) (gn gc:Nat) (oa:Option Addr) (on oc:Nat) (pa:Option Addr) (pn pc:Nat) (hS:ScRd G H s ga gn gc oa on oc pa pn pc X) (A:List Ac) (hA:A.length≤9000000) (hg:goodD s (A.map plA)) (hr0:∀y∈A,Sl ints G H y.2.2.2.2.1) (aa:Option Addr) (ac:Nat) [h4:RdC G H aa (acs A)]:
    SC Tryz.prog G 31 [.agg (scnC s ga gn gc oa on oc pa pn pc).toArray,.slice aa A.length ac] H (RunP G H (runD s (A.map plA))):=by
  obtain⟨h1,h2,h3,hr,hX,hgn,hon,hpn,hgc,hoc⟩:=hS
  have cK:=fun (H':List Ent) (hh:∀w,Holds G H' w→Holds G H w)=>by
    haveI:RdC G H' ga (qds s.C):=⟨fun w hw=>h1.here w (hh w hw)⟩
    haveI:RdC G H' oa (qds s.D):=⟨fun w hw=>h2.here w (hh w hw)⟩
    haveI:RdC G H' pa (X.map rxV):=⟨fun w hw=>h3.here w (hh w hw)⟩
    exact AI7 G H' s f X ga gn gc oa on oc pa pn pc hgn hgc hon hoc hpn hX (hr.mono hh)
  have cC:=fun (H':List Ent) (hh:∀w,Holds G H' w→Holds G H w)=>by
    haveI:RdC G H' ga (qds s.C):=⟨fun w hw=>h1.here w (hh w hw)⟩
    haveI:RdC G H' oa (qds s.D):=⟨fun w hw=>h2.here w (hh w hw)⟩
    haveI:RdC G H' pa (X.map rxV):=⟨fun w hw=>h3.here w (hh w hw)⟩
    exact AP5 G H' s f X ga gn gc oa on oc pa pn pc hgn hon hpn hX (hr.mono hh)
  have hsm:∀y∈A,Az2 y:=fun y hy=>by
    obtain⟨k,hk⟩:=List.getElem?_of_mem hy
    have h:=(A12 (k:=k) (y:=plA y) hg (by rw[List.getElem?_map,hk];rfl)).1
    obtain⟨k',c,m,i,⟨a,ac,L⟩,x⟩:=y
    unfold Az2
    change okD (runD s ((A.map plA).take k)) (k',c,m,i,L,x) at h
    dsimp only
    rcases h with ⟨c',he,-,-,-,-⟩|⟨r,c',he,hr,hc⟩|⟨L',he,hl,hx,-⟩
    · simp only[Prod.mk.injEq] at he
      obtain⟨rfl,rfl,rfl,rfl,rfl,rfl⟩:=he
      exact⟨by simp,by simp,rfl⟩
    · simp only[Prod.mk.injEq] at he
      obtain⟨rfl,rfl,rfl,rfl,rfl,rfl⟩:=he
      have hz:=(AP6 ((A.map plA).take k) s)
      have hfz:=f.pl.g.size
      rw[hz.2.1] at hr
      rw[hz.1] at hc
      exact⟨by simp,by simp;omega,rfl⟩
    · simp only[Prod.mk.injEq] at he
      obtain⟨rfl,rfl,rfl,rfl,rfl,rfl⟩:=he
      exact⟨hl.2,hx,rfl⟩
  have cA:=fun (H':List Ent) (hh:∀w,Holds G H' w→Holds G H w)=>by
    haveI:RdC G H' aa (acs A):=⟨fun w hw=>h4.here w (hh w hw)⟩
    exact BC2 G H' A aa A.length ac rfl rfl hA hsm (fun y hy=>(hr0 y hy).mono hh)
  have hlx:(acs A).length=A.length * 6:=Af8 A
  have hel:∀(k:Nat) x,A[k]? =some x→take? ((acs A).drop ((k:Int).toNat * 6)) 6=some (acC x):=fun k x hx=>AX0 hx
  generalize acs A=vs at *
  generalize hn:A.length=n at *
  have Hn:=Lib.hid hn
  clear hn
  refine J3 Tryz.func31 rfl rfl rfl rfl rfl ?_
  repeat' (first|(apply F3;first|(apply C8;refine A8 ?_)|(apply C9;refine D8 rfl rfl ?_)|(apply E5;refine F5 rfl rfl rfl ?_;refine F7 rfl ?_)|(apply F4;refine F8 rfl rfl ?_;refine K5 rfl ?_)|(apply D6;refine D9 rfl rfl ?_)|(apply P5;refine R7 (O6 rfl rfl rfl) rfl ?_)|(apply H6;first|refine F9 rfl rfl rfl (cK _ I8) rfl rfl ?_ |refine F9 rfl rfl rfl (cA _ I8) rfl rfl ?_ |(refine c_call rfl rfl rfl (cC _ I8) rfl rfl ?_;rintro _ _ ⟨gb2,gc2,ob2,oc2,pa2,pc2,Y,E,rfl,rfl,r1,r2,r3,r4⟩))|(apply J5;refine s_call (Q5 rfl rfl) rfl ?_)|(apply K9;refine O5 rfl rfl rfl rfl rfl rfl (fun _=>?_))|(apply L6;refine O0 rfl rfl rfl rfl (fun _=>?_)))|(apply D7)|(apply G9)|(apply F6)|((fail_if_success (refine K3 (id:=9) ?_));apply A7)|(refine G5 rfl ?_;apply I5)|(apply D5))
  all_goals (skip)
  clear cK cC cA
  rename_i b2 b4 tb
  refine R9 (α:=Nat) (fun k=>[(4,.pointer (some ⟨b4,0,none⟩)),(9,.pointer (some ⟨tb,0,none⟩)),(30,.slice aa n ac),(31,.int .i64 n),(32,.int .i64 k)])
    (fun k=> .blk tb 158 (trmC (runD s ((A.map plA).take k)) (some ⟨gb2,0,none⟩) gn gc2 (some ⟨ob2,0,none⟩) on oc2 pa2 Y.length pc2 ByteArray.empty):: .own 97 4 (some ⟨gb2,0,none⟩) gn gc2 (qds (runD s ((A.map plA).take k)).C):: .own 119 1 pa2 Y.length pc2 (Y.map rxV)::(E++(.own 97 4 (some ⟨ob2,0,none⟩) on oc2 (qds s.D):: .blk b4 41 scnZ::H)))
    (fun k=>k≤n) (fun k=>n-k) 0 (Nat.zero_le _) (by repeat (first|exact Le.nil _|refine Le.cons (by (rfl)) ?_)) (fun w hw=>hw.sub (.cons_cons _ (.cons_cons _ (.cons_cons _ ((List.Sublist.refl E).append (.cons_cons _ (.cons_cons _ (.cons _ (.refl H))))))))) ?_
  intro k hk
  have hsz:=AP6 ((A.map plA).take k) s
  have fk:Fre (runD s ((A.map plA).take k)):=Ai8 _ _ f ((AD8 _ _ s).1 (by rw[List.take_append_drop];exact hg)).1
  have hCl:(runD s ((A.map plA).take k)).C.length=s.C.length:=by rw[fk.pl.g.len,f.pl.g.len,hsz.1,hsz.2.1]
  by_cases hlt:(k:Int)<n
  · obtain⟨x,hx⟩:=AA3 (X:=A) (k:=k) (by rw[Hn.out];omega)
    have e1:=hel k x hx
    obtain⟨hok,hstep⟩:=A12 (k:=k) (y:=plA x) hg (by rw[List.getElem?_map,hx];rfl)
    have hrx:=hr0 x (List.mem_of_getElem? hx)
    generalize runD s ((A.map plA).take k)=sk at *
    have cT:=fun (K':List Ent) (hi:RdC G K' x.2.2.2.2.1.1 (ints x.2.2.2.2.1.2.2))=>Bx9 G K' sk fk x hok tb gb2 gn gc2 (some ⟨ob2,0,none⟩) on oc2 pa2 Y.length pc2 ByteArray.empty (by rw[hCl];exact hgn) r3
    generalize stepD sk (plA x)=sk2 at *
    clear hel hx hok hr0 hg
    obtain⟨kk,cc,mm,ii,⟨ra,rc,L⟩,tt⟩:=x
    dsimp only at cT hrx
    have e1:take? (vs.drop ((k:Int).toNat * 6)) 6=some [.int .i64 kk,.int .i64 cc,.int .i64 mm,.string ii,.slice ra L.length rc,.string tt]:=e1
    generalize L.length=ln at *
    repeat' (first|(apply F3;first|(apply C8;refine A8 ?_)|(apply C9;refine D8 rfl rfl ?_)|(apply E5;refine F5 rfl rfl rfl ?_;first|(apply M0;refine L9 ⟨by omega,by omega⟩ ?_)|refine F7 rfl ?_)|(apply F4;first|(refine F8 rfl rfl ?_;refine K5 rfl ?_)|(refine F8 rfl rfl ?_;refine Y5 e1 rfl ?_))|(apply M4;refine N9 (K6 rfl rfl rfl hlx (by omega) (by omega)) rfl ?_)|(apply H6;refine c_call rfl rfl rfl (AN8 (tb:=tb) (a1:=some ⟨gb2,0,none⟩) (cT _ ⟨fun w hw=>hrx.rd.here w (hw.sub (by repeat (first|exact List.Sublist.refl _|refine List.Sublist.cons _ ?_ |refine List.Sublist.trans ?_ (List.sublist_append_right _ _))))⟩)) rfl rfl ?_;rintro _ _ ⟨rfl,rfl⟩)|(apply H9;refine M6 rfl rfl rfl rfl rfl rfl rfl rfl ?_)|(apply L6;refine O0 rfl rfl rfl rfl (fun _=>?_)))|(apply D7)|(apply G9)|(apply F6)|(apply A7)|(refine G5 rfl ?_;apply E9<;>intro hq<;>(try (exfalso;omega)))|(apply D5)|(apply J2))
    all_goals (skip)
    exact J6 (k+1) ⟨by omega,by omega⟩ (by repeat (first|exact Le.nil _|refine Le.cons (by (rfl)) ?_)) (fun w hw=>by rw[hstep];exact hw.subs (by repeat (first|refine Subs.cons (by repeat constructor) ?_ |exact Subs.sub N7)))
  · obtain rfl:k=n:=by omega
    have hall:(A.map plA).take k=A.map plA:=List.take_of_length_le (by rw[List.length_map,Hn.out];omega)
    rw[hall] at fk hCl hsz ⊢
    generalize runD s (A.map plA)=s2 at *
    rw[←hCl] at hgn
    rw[←hsz.2.2.1] at hon
    have hD:qds s.D=qds s2.D:=by rw[hsz.2.2.1]
    rw[←hsz.2.2.2] at r2
    rw[hD]
    clear hg hr0
    repeat' (first|(apply F3;first|(apply C8;refine A8 ?_)|(apply E5;refine F5 rfl rfl rfl ?_;refine F7 rfl ?_))|(apply D7)|(apply N8)|((fail_if_success (refine K3 (id:=13) ?_));apply A7)|(refine G5 rfl ?_;apply E9<;>intro hq<;>(try (exfalso;omega)))|(apply D5)|(apply J7)|(apply J8))
    all_goals (skip)
    repeat' (first|(apply F3;first|(apply C8;refine A8 ?_)|(apply H9;refine M6 rfl rfl rfl rfl rfl rfl rfl rfl ?_))|(apply U4;refine R5 (k:=0) I8 ?_)|(apply V6;first|(refine O9 rfl ?_)|(refine P8 rfl rfl rfl rfl (by kernel_rfl) (by decide+kernel) (by decide+kernel) ?_;first|(apply U5;refine I4 (V4 rfl rfl) ?_)|(apply U9;refine U6 rfl ?_;first|refine G6 rfl ?_ |refine L8 rfl rfl ?_)|(apply Z0;refine I4 (X7 rfl rfl) ?_)|(apply Q0;refine I4 (E8 rfl rfl) ?_)|(apply Y7;refine I4 (H8 rfl rfl) ?_))|(refine P9 rfl ?_)|(refine R4 (by decide+kernel) ?_)|(refine S9 (by kernel_rfl) ?_))|(apply X4;first|(refine T9 rfl)|(refine U7 (by decide+kernel) ?_)|(refine U0 rfl ?_ ?_))|(apply H7)|(apply D5)|(refine K3 (id:=13) ?_;refine AA9 (b:=b4) ?_))
    all_goals
      have hE:∀w,Holds G (.own 97 4 (some ⟨gb2,0,none⟩) gn gc2 (qds s2.C):: .own 119 1 pa2 Y.length pc2 (Y.map rxV)::(E++[.own 97 4 (some ⟨ob2,0,none⟩) on oc2 (qds s2.D)])) w→Holds G E w:=fun w hw=>hw.sub (.cons _ (.cons _ (List.sublist_append_left E _)))
      refine d9 ((.own 97 4 (some ⟨gb2,0,none⟩) gn gc2 (qds s2.C):: .own 119 1 pa2 Y.length pc2 (Y.map rxV)::(E++[.own 97 4 (some ⟨ob2,0,none⟩) on oc2 (qds s2.D)]))++H) (.inr rfl) rfl rfl rfl (fun w hw=>hw.sub (by
        rw[List.cons_append,List.cons_append,List.append_assoc]
        exact .cons _ (.cons _ (.cons_cons _ (.cons_cons _ ((List.Sublist.refl E).append (.cons_cons _ (.refl H)))))))) ?_
      exact⟨some ⟨gb2,0,none⟩,gn,gc2,some ⟨ob2,0,none⟩,on,oc2,pa2,Y.length,pc2,Y,_,rfl,rfl,⟨inferInstanceAs (RdC G (.own 97 4 (some ⟨gb2,0,none⟩) gn gc2 (qds s2.C)::_) _ _),⟨Rd.mem (e:=97) (size:=4) (n:=on) (c:=oc2) (by simp)⟩,⟨Rd.mem (e:=119) (size:=1) (n:=Y.length) (c:=pc2) (by simp)⟩,r1.mono hE,r2,hgn,hon,rfl,r3,r4⟩⟩
end Go.Proofs.YtmmnimagbnlcmaaGreatDoor
end
