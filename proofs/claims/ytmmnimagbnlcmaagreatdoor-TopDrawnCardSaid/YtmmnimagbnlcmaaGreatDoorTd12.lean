/- Texts of this claim, merged: Nvt Nvt2 Iac IacR IacU IacF. -/
import Derived.Test.YtmmnimagbnlcmaaGreatDoorTd11
import Derived.WalkKit
import Derived.WalkSpells
import Derived.WalkLawsBesides
import Derived.Handy
import Derived.Lib.Hide
import Derived.Laws.BitsAllLaws
import Derived.Deep.MidRow
import Derived.Deep.WholeRow
import Derived.BigQuiet
import Derived.Laws.CopyOwn
import Derived.Deep.QuietTactic
import Derived.Laws.AppendOwnNone
import Derived.Laws.MakeOwn
import Derived.Laws.IdiomStrings
import Derived.OrdersHeld
import Derived.Lib.SliceRun
import Derived.ChangeKeysEq
import Derived.Laws.CopyRow
import Derived.Test.YtmmnimagbnlcmaaGreatDoorRows
import Derived.Lib.Replace
import Derived.Shelf.Strings.Builder1
import Derived.Shelf.Strings.Builder2
import Derived.Shelf.Strings.OnBuilder
import Derived.Shelf.Strings.Trim
import Derived.Shelf.Small.Utf8
import Derived.Shelf.Small.Strs
import Derived.Shelf.Strings.BuilderF
import Derived.Shelf.Strconv.Itoa0
import Derived.Shelf.Strconv.Itoa1
import Derived.Shelf.LaysM
import Derived.Shelf.Strconv.Itoa2
import Derived.Shelf.Strconv.Itoa3
import Derived.Shelf.Strings.Search1
import Derived.Shelf.Strings.Search2
import Derived.Shelf.Strings.Search3
import Derived.Shelf.Strings.Count
import Derived.Shelf.Strings.Shaped
import Derived.Shelf.Strings.LastIndex
import Derived.Shelf.Strings.Prefix
import Derived.Shelf.Strings.Split
import Derived.Shelf.Strings.Replace
import Derived.Shelf.Strings.SplitShaped
import Derived.Shelf.Strings.Runes
import Derived.Shelf.Strings.AsciiSet
import Derived.Shelf.Bits.Mul64
import Derived.Shelf.Strings.Repeat
import Derived.Shelf.Unicode.DecodeSlow
import Derived.Shelf.Unicode.DecodeAny
import Derived.Shelf.Unicode.ValidAny
import Derived.Test.YtmmnimagbnlcmaaGreatDoorProg
import Derived.Lib.AppendStr
import Derived.ArgAppend
import Derived.Lib.Repeat
section
namespace Go.Fw
open Go Go.RowKit Go.Sx
def u8s (l:List UInt8):List Int:=l.map fun b=>(b.toNat:Int)
theorem AS4 (a b:List UInt8):u8s (a++b)=u8s a++u8s b:=List.map_append
theorem BH0 (l:List UInt8):(u8s l).length=l.length:=List.length_map _
theorem Bm3 (l:List UInt8):(l.flatMap outB).length≤2 * l.length:=by
  induction l with
  | nil=>exact Nat.le_refl _
  | cons b l ih=>
    rw[List.flatMap_cons,List.length_append,List.length_cons]
    have:(outB b).length≤2:=by unfold outB;split;exact Nat.le_refl _;split;exact Nat.le_refl _;exact Nat.le_succ _
    omega
theorem BN2 {l:List UInt8} {i:Nat} {b:UInt8} (h:l[i]? =some b):(l.take (i+1)).flatMap outB=(l.take i).flatMap outB++outB b:=by
  obtain⟨hi,rfl⟩:=List.getElem?_eq_some_iff.1 h
  rw[List.take_succ_eq_append_getElem hi,List.flatMap_append]
  simp
end Go.Fw
namespace Go.Proofs.YtmmnimagbnlcmaaGreatDoor
open Go Go.RowKit Go.Fw Go.Sx
set_option maxRecDepth 100000
set_option maxHeartbeats 1000000
attribute [local irreducible] SW SL SQ AtQ SV SC BB LD PK Yields SO SOT SOA SY
theorem Au0 (G:Ctx) (H:List Ent) (d:ByteArray) (hd:d.size≤1048576):SV Tryz.prog G 11 [.string d,.bool false] H (.string (strOfNums (u8s (d.data.toList.flatMap outB)))):=by
  have hdl:d.data.toList.length=d.size:=rfl
  have hln:=fun i=>Bm3 (d.data.toList.take i)
  refine P7 Tryz.func11 rfl rfl rfl rfl rfl ?_
  repeat' (first|(apply F3;first|(apply C8;refine A8 ?_)|(apply C9;refine D8 rfl rfl ?_)|(apply D6;refine D9 rfl rfl ?_)|(apply J5;refine s_call (Q3 rfl rfl) rfl ?_))|(apply D7)|(apply G9)|(apply F6)|((fail_if_success (refine K3 (id:=5) ?_));apply A7)|(refine G5 rfl ?_;apply I5)|(apply D5))
  refine R9 (α:=Nat×Option Addr×Nat) (fun g=>[(0,.string d),(5,.slice g.2.1 (u8s ((d.data.toList.take g.1).flatMap outB)).length g.2.2),(10,.int .i64 d.size),(11,.int .i64 g.1)]) (fun g=> .own 5 1 g.2.1 (u8s ((d.data.toList.take g.1).flatMap outB)).length g.2.2 (octs (u8s ((d.data.toList.take g.1).flatMap outB)))::H)
    (fun g=>g.1≤d.size) (fun g=>d.size-g.1) (0,none,0) (Nat.zero_le _) (by repeat (first|exact Le.nil _|refine Le.cons (by (rfl)) ?_)) (fun _ hw=>(hw.nilrow _ _).subs (by repeat (first|refine Subs.cons (by repeat constructor) ?_ |exact Subs.sub N7))) ?_
  rintro ⟨i,ai,ci⟩ hi
  dsimp only at hi ⊢
  have hli:=hln i
  rw[List.length_take] at hli
  have hul:=BH0 ((d.data.toList.take i).flatMap outB)
  by_cases hlt:(i:Int)<(d.size:Int)
  · obtain⟨b,hb⟩:∃b,d.data.toList[i]? =some b:=⟨_,List.getElem?_eq_getElem (by omega)⟩
    have hsn:=BN2 hb
    have hnb:(nums d).getD (i:Int).toNat 0=(b.toNat:Int):=by
      unfold nums
      rw[Int.toNat_natCast,List.getD_eq_getElem?_getD,List.getElem?_map,hb]
      rfl
    have hs0:u8s ((d.data.toList.take (i+1)).flatMap outB)=u8s ((d.data.toList.take i).flatMap outB)++u8s (outB b):=by rw[hsn,AS4]
    rw[←hul] at hli
    clear hln hsn hul
    generalize u8s ((d.data.toList.take i).flatMap outB)=L at *
    by_cases h10:b=10
    · have hs:u8s ((d.data.toList.take (i+1)).flatMap outB)=L++[13,10]:=by rw[hs0,h10];rfl
      have hv:(b.toNat:Int)=10:=by rw[h10];rfl
      repeat' (first|(apply F3;first|(apply C8;refine A8 ?_)|(apply C9;refine D8 rfl rfl ?_)|(apply E5;refine F5 rfl rfl rfl ?_;first|(apply M0;refine L9 ⟨by omega,by omega⟩ ?_)|refine F7 rfl ?_)|(apply D6;refine D9 rfl rfl ?_)|(apply U8;refine W9 (o8 rfl rfl rfl (by omega) (by omega)) rfl ?_)|(apply J5;refine R6 rfl rfl rfl rfl (by (rfl)) (by (rfl)) (by omega) rfl rfl (fun _ _=>?_))|(apply V8;refine M7 rfl rfl rfl rfl rfl rfl rfl rfl rfl rfl (fun _=>?_)))|(apply D7)|(apply G9)|(apply F6)|(apply A7)|(refine G5 rfl ?_;apply E9<;>intro hq<;>(try (exfalso;omega)))|(apply D5)|(apply J2))
      all_goals (skip)
      rename_i _ a2 c2
      refine J6 (i+1,a2,c2) ⟨by dsimp only;omega,by dsimp only;omega⟩ ?_ ?_
      · dsimp only
        rw[hs,List.length_append]
        exact(by repeat (first|exact Le.nil _|refine Le.cons (by (rfl)) ?_))
      · dsimp only
        rw[hs,List.length_append,AJ0]
        exact I8
    · have hv:¬(b.toNat:Int)=10:=fun e=>h10 (UInt8.toNat_inj.1 (by show b.toNat=10;omega))
      by_cases h13:b=13
      · have hs:u8s ((d.data.toList.take (i+1)).flatMap outB)=L++[13,0]:=by rw[hs0,h13];rfl
        have hv3:(b.toNat:Int)=13:=by rw[h13];rfl
        repeat' (first|(apply F3;first|(apply C8;refine A8 ?_)|(apply C9;refine D8 rfl rfl ?_)|(apply E5;refine F5 rfl rfl rfl ?_;first|(apply M0;refine L9 ⟨by omega,by omega⟩ ?_)|refine F7 rfl ?_)|(apply D6;refine D9 rfl rfl ?_)|(apply U8;refine W9 (o8 rfl rfl rfl (by omega) (by omega)) rfl ?_)|(apply J5;refine R6 rfl rfl rfl rfl (by (rfl)) (by (rfl)) (by omega) rfl rfl (fun _ _=>?_))|(apply V8;refine M7 rfl rfl rfl rfl rfl rfl rfl rfl rfl rfl (fun _=>?_)))|(apply D7)|(apply G9)|(apply F6)|(apply A7)|(refine G5 rfl ?_;apply E9<;>intro hq<;>(try (exfalso;omega)))|(apply D5)|(apply J2))
        all_goals (skip)
        rename_i _ a2 c2
        refine J6 (i+1,a2,c2) ⟨by dsimp only;omega,by dsimp only;omega⟩ ?_ ?_
        · dsimp only
          rw[hs,List.length_append]
          exact(by repeat (first|exact Le.nil _|refine Le.cons (by (rfl)) ?_))
        · dsimp only
          rw[hs,List.length_append,AJ0]
          exact I8
      · have hv3:¬(b.toNat:Int)=13:=fun e=>h13 (UInt8.toNat_inj.1 (by show b.toNat=13;omega))
        have hs:u8s ((d.data.toList.take (i+1)).flatMap outB)=L++[(nums d).getD (i:Int).toNat 0]:=by
          rw[hs0,hnb]
          unfold outB u8s
          rw[if_neg h10,if_neg h13]
          rfl
        repeat' (first|(apply F3;first|(apply C8;refine A8 ?_)|(apply C9;refine D8 rfl rfl ?_)|(apply E5;refine F5 rfl rfl rfl ?_;first|(apply M0;refine L9 ⟨by omega,by omega⟩ ?_)|refine F7 rfl ?_)|(apply D6;refine D9 rfl rfl ?_)|(apply U8;refine W9 (o8 rfl rfl rfl (by omega) (by omega)) rfl ?_)|(apply J5;refine R6 rfl rfl rfl rfl (by (rfl)) (by (rfl)) (by omega) rfl rfl (fun _ _=>?_))|(apply V8;refine M7 rfl rfl rfl rfl rfl rfl rfl rfl rfl rfl (fun _=>?_)))|(apply D7)|(apply G9)|(apply F6)|(apply A7)|(refine G5 rfl ?_;apply E9<;>intro hq<;>(try (exfalso;omega)))|(apply D5)|(apply J2))
        all_goals (skip)
        rename_i _ a2 c2
        refine J6 (i+1,a2,c2) ⟨by dsimp only;omega,by dsimp only;omega⟩ ?_ ?_
        · dsimp only
          rw[hs,List.length_append]
          exact(by repeat (first|exact Le.nil _|refine Le.cons (by (rfl)) ?_))
        · dsimp only
          rw[hs,List.length_append,AJ0]
          exact I8
  · obtain rfl:i=d.size:=by omega
    rw[List.take_of_length_le (by omega)]
    repeat' (first|(apply F3;first|(apply C8;refine A8 ?_)|(apply C9;refine D8 rfl rfl ?_)|(apply E5;refine F5 rfl rfl rfl ?_;refine F7 rfl ?_)|(apply D6;refine D9 rfl rfl ?_)|(apply p8;refine x9 (AO5 (xs:=u8s (d.data.toList.flatMap outB)) rfl rfl rfl rfl) rfl ?_))|(apply D7)|(apply H7)|(apply N8)|(apply A7)|(refine G5 rfl ?_;apply E9<;>intro hq<;>(try (exfalso;omega)))|(apply D5)|(apply J7)|(apply J8))
    all_goals (refine M3 (by (exact .inr rfl)) rfl N7 ?_;rfl)
theorem A51 (G:Ctx) (H:List Ent) (cr0:Bool) (d:ByteArray) (hd:d.size≤1048577):SV Tryz.prog G 10 [.bool cr0,.string d,.bool false] H (.tuple #[.bool (mIn cr0 d.data.toList).1,.string (strOfNums (u8s (mIn cr0 d.data.toList).2))]):=by
  have hdl:d.data.toList.length=d.size:=rfl
  refine AC6 Tryz.func10 rfl rfl rfl rfl rfl ?_
  repeat' (first|(apply F3;first|(apply C8;refine A8 ?_)|(apply C9;refine D8 rfl rfl ?_)|(apply D6;refine D9 rfl rfl ?_)|(apply J5;refine s_call (Q3 rfl rfl) rfl ?_))|(apply D7)|(apply G9)|(apply F6)|((fail_if_success (refine K3 (id:=5) ?_));apply A7)|(refine G5 rfl ?_;apply I5)|(apply D5))
  refine R9 (α:=Nat×Bool×List UInt8×Option Addr×Nat) (fun g=>[(0,.bool g.2.1),(1,.string d),(8,.slice g.2.2.2.1 (u8s g.2.2.1).length g.2.2.2.2),(17,.int .i64 d.size),(18,.int .i64 g.1)]) (fun g=> .own 5 1 g.2.2.2.1 (u8s g.2.2.1).length g.2.2.2.2 (octs (u8s g.2.2.1))::H)
    (fun g=>g.1≤d.size∧mIn cr0 d.data.toList=((mIn g.2.1 (d.data.toList.drop g.1)).1,g.2.2.1++(mIn g.2.1 (d.data.toList.drop g.1)).2)∧g.2.2.1.length≤2 * g.1) (fun g=>d.size-g.1) (0,cr0,[],none,0) ⟨Nat.zero_le _,rfl,Nat.le_refl _⟩ (by repeat (first|exact Le.nil _|refine Le.cons (by (rfl)) ?_)) (fun _ hw=>(hw.nilrow _ _).subs (by repeat (first|refine Subs.cons (by repeat constructor) ?_ |exact Subs.sub N7))) ?_
  rintro ⟨i,cr,Z,ai,ci⟩ ⟨hi,hinv,hZ⟩
  dsimp only at hi hinv hZ ⊢
  have hul:=BH0 Z
  by_cases hlt:(i:Int)<(d.size:Int)
  · obtain⟨b,hb⟩:∃b,d.data.toList[i]? =some b:=⟨_,List.getElem?_eq_getElem (by omega)⟩
    have hdr:d.data.toList.drop i=b::d.data.toList.drop (i+1):=by
      obtain⟨h1,rfl⟩:=List.getElem?_eq_some_iff.1 hb
      exact List.drop_eq_getElem_cons h1
    have hnb:(nums d).getD (i:Int).toNat 0=(b.toNat:Int):=by
      unfold nums
      rw[Int.toNat_natCast,List.getD_eq_getElem?_getD,List.getElem?_map,hb]
      rfl
    have hu:∀v:UInt8,¬b=v→¬(b.toNat:Int)=(v.toNat:Int):=fun v h e=>h (UInt8.toNat_inj.1 (by omega))
    by_cases h13:b=13
    · have hv:(b.toNat:Int)=13:=by rw[h13];rfl
      cases cr
      · have hst:mIn cr0 d.data.toList=((mIn true (d.data.toList.drop (i+1))).1,Z++(mIn true (d.data.toList.drop (i+1))).2):=by
          rw[hinv,hdr]
          rw[mIn,if_pos h13]
        clear hinv hdr
        repeat' (first|(apply F3;first|(apply C8;refine A8 ?_)|(apply C9;refine D8 rfl rfl ?_)|(apply E5;refine F5 rfl rfl rfl ?_;first|(apply M0;refine L9 ⟨by omega,by omega⟩ ?_)|refine F7 rfl ?_)|(apply D6;refine D9 rfl rfl ?_)|(apply U8;refine W9 (o8 rfl rfl rfl (by omega) (by omega)) rfl ?_))|(apply D7)|(apply G9)|(apply F6)|(apply A7)|(refine G5 rfl ?_;first|(apply I5)|(apply E9<;>intro hq<;>(try (exfalso;omega))))|(apply D5)|(apply J2))
        all_goals (skip)
        exact J6 (i+1,true,Z,ai,ci) ⟨⟨by dsimp only;omega,hst,by dsimp only;omega⟩,by dsimp only;omega⟩ (by repeat (first|exact Le.nil _|refine Le.cons (by (rfl)) ?_)) I8
      · have h10:¬b=10:=by rw[h13];decide
        have h0:¬b=0:=by rw[h13];decide
        have hz:u8s (Z++[13])=u8s Z++[13]:=by rw[AS4];rfl
        have hst:mIn cr0 d.data.toList=((mIn true (d.data.toList.drop (i+1))).1,(Z++[13])++(mIn true (d.data.toList.drop (i+1))).2):=by
          rw[hinv,hdr]
          rw[mIn,if_neg h10,if_neg h0,if_pos h13]
          simp
        clear hinv hdr
        repeat' (first|(apply F3;first|(apply C8;refine A8 ?_)|(apply C9;refine D8 rfl rfl ?_)|(apply E5;refine F5 rfl rfl rfl ?_;first|(apply M0;refine L9 ⟨by omega,by omega⟩ ?_)|refine F7 rfl ?_)|(apply D6;refine D9 rfl rfl ?_)|(apply U8;refine W9 (o8 rfl rfl rfl (by omega) (by omega)) rfl ?_)|(apply J5;refine R6 rfl rfl rfl rfl (by (rfl)) (by (rfl)) (by omega) rfl rfl (fun _ _=>?_))|(apply V8;refine M7 rfl rfl rfl rfl rfl rfl rfl rfl rfl rfl (fun _=>?_)))|(apply D7)|(apply G9)|(apply F6)|(apply A7)|(refine G5 rfl ?_;first|(apply I7)|(apply E9<;>intro hq<;>(try (exfalso;omega))))|(apply D5)|(apply J2))
        all_goals (skip)
        rename_i a2 c2
        refine J6 (i+1,true,Z++[13],a2,c2) ⟨⟨by dsimp only;omega,hst,by dsimp only;rw[List.length_append];(simp only[List.length_cons,List.length_nil];omega)⟩,by dsimp only;omega⟩ ?_ ?_
        · dsimp only
          rw[hz,List.length_append]
          exact(by repeat (first|exact Le.nil _|refine Le.cons (by (rfl)) ?_))
        · dsimp only
          rw[hz,List.length_append,AJ0]
          exact I8
    · have hv:¬(b.toNat:Int)=13:=hu 13 h13
      cases cr
      · --plain
        have hz:u8s (Z++[b])=u8s Z++[(nums d).getD (i:Int).toNat 0]:=by rw[AS4];rw[hnb];rfl
        have hst:mIn cr0 d.data.toList=((mIn false (d.data.toList.drop (i+1))).1,(Z++[b])++(mIn false (d.data.toList.drop (i+1))).2):=by
          rw[hinv,hdr]
          rw[mIn,if_neg h13]
          simp
        clear hinv hdr
        repeat' (first|(apply F3;first|(apply C8;refine A8 ?_)|(apply C9;refine D8 rfl rfl ?_)|(apply E5;refine F5 rfl rfl rfl ?_;first|(apply M0;refine L9 ⟨by omega,by omega⟩ ?_)|refine F7 rfl ?_)|(apply D6;refine D9 rfl rfl ?_)|(apply U8;refine W9 (o8 rfl rfl rfl (by omega) (by omega)) rfl ?_)|(apply J5;refine R6 rfl rfl rfl rfl (by (rfl)) (by (rfl)) (by omega) rfl rfl (fun _ _=>?_))|(apply V8;refine M7 rfl rfl rfl rfl rfl rfl rfl rfl rfl rfl (fun _=>?_)))|(apply D7)|(apply G9)|(apply F6)|(apply A7)|(refine G5 rfl ?_;first|(apply I5)|(apply E9<;>intro hq<;>(try (exfalso;omega))))|(apply D5)|(apply J2))
        all_goals (skip)
        rename_i a2 c2
        refine J6 (i+1,false,Z++[b],a2,c2) ⟨⟨by dsimp only;omega,hst,by dsimp only;rw[List.length_append];(simp only[List.length_cons,List.length_nil];omega)⟩,by dsimp only;omega⟩ ?_ ?_
        · dsimp only
          rw[hz,List.length_append]
          exact(by repeat (first|exact Le.nil _|refine Le.cons (by (rfl)) ?_))
        · dsimp only
          rw[hz,List.length_append,AJ0]
          exact I8
      · by_cases h10:b=10
        · have hv1:(b.toNat:Int)=10:=by rw[h10];rfl
          have hz:u8s (Z++[10])=u8s Z++[10]:=by rw[AS4];rfl
          have hst:mIn cr0 d.data.toList=((mIn false (d.data.toList.drop (i+1))).1,(Z++[10])++(mIn false (d.data.toList.drop (i+1))).2):=by
            rw[hinv,hdr]
            rw[mIn,if_pos h10]
            simp
          clear hinv hdr
          repeat' (first|(apply F3;first|(apply C8;refine A8 ?_)|(apply C9;refine D8 rfl rfl ?_)|(apply E5;refine F5 rfl rfl rfl ?_;first|(apply M0;refine L9 ⟨by omega,by omega⟩ ?_)|refine F7 rfl ?_)|(apply D6;refine D9 rfl rfl ?_)|(apply U8;refine W9 (o8 rfl rfl rfl (by omega) (by omega)) rfl ?_)|(apply J5;refine R6 rfl rfl rfl rfl (by (rfl)) (by (rfl)) (by omega) rfl rfl (fun _ _=>?_))|(apply V8;refine M7 rfl rfl rfl rfl rfl rfl rfl rfl rfl rfl (fun _=>?_)))|(apply D7)|(apply G9)|(apply N8)|(apply F6)|(apply A7)|(refine G5 rfl ?_;first|(apply I7)|(apply E9<;>intro hq<;>(try (exfalso;omega))))|(apply D5)|(apply J7)|(apply J8)|refine AI5 rfl ?_)
          all_goals (skip)
          rename_i a2 c2
          refine J6 (i+1,false,Z++[10],a2,c2) ⟨⟨by dsimp only;omega,hst,by dsimp only;rw[List.length_append];(simp only[List.length_cons,List.length_nil];omega)⟩,by dsimp only;omega⟩ ?_ ?_
          · dsimp only
            rw[hz,List.length_append]
            exact(by repeat (first|exact Le.nil _|refine Le.cons (by (rfl)) ?_))
          · dsimp only
            rw[hz,List.length_append,AJ0]
            exact I8
        · have hv1:¬(b.toNat:Int)=10:=hu 10 h10
          by_cases h0:b=0
          · have hv2:(b.toNat:Int)=0:=by rw[h0];rfl
            have hz:u8s (Z++[13])=u8s Z++[13]:=by rw[AS4];rfl
            have hst:mIn cr0 d.data.toList=((mIn false (d.data.toList.drop (i+1))).1,(Z++[13])++(mIn false (d.data.toList.drop (i+1))).2):=by
              rw[hinv,hdr]
              rw[mIn,if_neg h10,if_pos h0]
              simp
            clear hinv hdr
            repeat' (first|(apply F3;first|(apply C8;refine A8 ?_)|(apply C9;refine D8 rfl rfl ?_)|(apply E5;refine F5 rfl rfl rfl ?_;first|(apply M0;refine L9 ⟨by omega,by omega⟩ ?_)|refine F7 rfl ?_)|(apply D6;refine D9 rfl rfl ?_)|(apply U8;refine W9 (o8 rfl rfl rfl (by omega) (by omega)) rfl ?_)|(apply J5;refine R6 rfl rfl rfl rfl (by (rfl)) (by (rfl)) (by omega) rfl rfl (fun _ _=>?_))|(apply V8;refine M7 rfl rfl rfl rfl rfl rfl rfl rfl rfl rfl (fun _=>?_)))|(apply D7)|(apply G9)|(apply N8)|(apply F6)|(apply A7)|(refine G5 rfl ?_;first|(apply I7)|(apply E9<;>intro hq<;>(try (exfalso;omega))))|(apply D5)|(apply J7)|(apply J8)|refine AI5 rfl ?_)
            all_goals (skip)
            rename_i a2 c2
            refine J6 (i+1,false,Z++[13],a2,c2) ⟨⟨by dsimp only;omega,hst,by dsimp only;rw[List.length_append];(simp only[List.length_cons,List.length_nil];omega)⟩,by dsimp only;omega⟩ ?_ ?_
            · dsimp only
              rw[hz,List.length_append]
              exact(by repeat (first|exact Le.nil _|refine Le.cons (by (rfl)) ?_))
            · dsimp only
              rw[hz,List.length_append,AJ0]
              exact I8
          · have hv2:¬(b.toNat:Int)=0:=hu 0 h0
            have hz:u8s (Z++[13,b])=u8s Z++[13,(nums d).getD (i:Int).toNat 0]:=by rw[AS4];rw[hnb];rfl
            have hst:mIn cr0 d.data.toList=((mIn false (d.data.toList.drop (i+1))).1,(Z++[13,b])++(mIn false (d.data.toList.drop (i+1))).2):=by
              rw[hinv,hdr]
              rw[mIn,if_neg h10,if_neg h0,if_neg h13]
              simp
            clear hinv hdr
            repeat' (first|(apply F3;first|(apply C8;refine A8 ?_)|(apply C9;refine D8 rfl rfl ?_)|(apply E5;refine F5 rfl rfl rfl ?_;first|(apply M0;refine L9 ⟨by omega,by omega⟩ ?_)|refine F7 rfl ?_)|(apply D6;refine D9 rfl rfl ?_)|(apply U8;refine W9 (o8 rfl rfl rfl (by omega) (by omega)) rfl ?_)|(apply J5;refine R6 rfl rfl rfl rfl (by (rfl)) (by (rfl)) (by omega) rfl rfl (fun _ _=>?_))|(apply V8;refine M7 rfl rfl rfl rfl rfl rfl rfl rfl rfl rfl (fun _=>?_)))|(apply D7)|(apply G9)|(apply F6)|(apply A7)|(refine G5 rfl ?_;first|(apply I7)|(apply E9<;>intro hq<;>(try (exfalso;omega))))|(apply D5)|(apply J2))
            all_goals (skip)
            rename_i a2 c2
            refine J6 (i+1,false,Z++[13,b],a2,c2) ⟨⟨by dsimp only;omega,hst,by dsimp only;rw[List.length_append];(simp only[List.length_cons,List.length_nil];omega)⟩,by dsimp only;omega⟩ ?_ ?_
            · dsimp only
              rw[hz,List.length_append]
              exact(by repeat (first|exact Le.nil _|refine Le.cons (by (rfl)) ?_))
            · dsimp only
              rw[hz,List.length_append,AJ0,show octs (u8s Z)++octs [13,(nums d).getD (i:Int).toNat 0]=(octs (u8s Z)++[.int .u8 13])++[.int .u8 ((nums d).getD (i:Int).toNat 0)] from by simp [octs]]
              exact I8
  · obtain rfl:i=d.size:=by omega
    rw[List.drop_of_length_le (by omega)] at hinv
    have hf:mIn cr0 d.data.toList=(cr,Z):=by
      rw[hinv]
      cases cr<;>simp [mIn]
    rw[hf]
    clear hinv hf
    repeat' (first|(apply F3;first|(apply C8;refine A8 ?_)|(apply E5;refine F5 rfl rfl rfl ?_;refine F7 rfl ?_))|(apply AN1;first|(apply AF4;refine AF2 ?_)|(apply AE3;refine AG6 rfl rfl ?_)|(apply AG4;refine AK1 rfl rfl ?_)|(apply Af4;refine Am8 (AO5 (xs:=u8s Z) rfl rfl rfl rfl) rfl ?_))|(apply D7)|(apply H7)|(apply N8)|(apply A7)|(refine G5 rfl ?_;apply E9<;>intro hq<;>(try (exfalso;omega)))|(apply D5)|(apply J7)|(apply J8)|refine AC9 (by kernel_rfl) ?_)
    all_goals (refine M3 (by (exact .inr rfl)) rfl N7 ?_;rfl)
end Go.Proofs.YtmmnimagbnlcmaaGreatDoor
end
namespace Go.Proofs.YtmmnimagbnlcmaaGreatDoor
open Go Go.RowKit Go.Fw Go.Sx
set_option maxRecDepth 100000
section
set_option maxHeartbeats 1000000
attribute [local irreducible] SW SL SQ AtQ SV SC BB LD PK Yields SO SOT SOA SY
theorem Ak2 (G:Ctx) (H:List Ent) (m:Int) (hm:∀w,Holds G H w→w.cell? ⟨2,0,none⟩=some (.int .i64 m)) (d:ByteArray) (hd:d.size≤4000000) (c:UInt8) (new:List UInt8) (hn:new.length≤2) (hne:[c]≠new):SV Tryz.prog G 40 [.string d,.string ⟨#[c]⟩,.string ⟨new.toArray⟩] H (.string ⟨(d.data.toList.flatMap (fun b=>if b=c then new else [b])).toArray⟩):=by
  refine AA4 (j6 Tryz.func40 rfl rfl) fun w hw=>?_
  have hc:Lib.countB d ⟨#[c]⟩≤d.size:=Lib.countB_le ⟨#[c]⟩ (show 1≤1 from Nat.le_refl _) d.size d (Nat.le_refl _)
  have hns:(⟨new.toArray⟩:ByteArray).size=new.length:=rfl
  have hmul:Lib.countB d ⟨#[c]⟩ * (⟨new.toArray⟩:ByteArray).size≤d.size * 2:=by rw[hns];exact Nat.mul_le_mul hc hn
  have h:=Tryz.strings_ReplaceAll d ⟨#[c]⟩ ⟨new.toArray⟩ m w (by omega) (hm w hw) (show 1≤1 from Nat.le_refl _) (by omega)
  rw[show (⟨#[c]⟩:ByteArray).data.toList=[c] from rfl,show (⟨new.toArray⟩:ByteArray).data.toList=new from List.toList_toArray,Ao5 c new _ hne] at h
  exact h
end
section
set_option maxHeartbeats 1000000
abbrev tokV (k c o:Int) (d:ByteArray):Value:= .agg #[.int .i64 k,.int .i64 c,.int .i64 o,.string d]
attribute [local irreducible] SW SL SQ AtQ SV SC BB LD PK Yields SO SOT SOA SY
theorem BM4 (G:Ctx) (H:List Ent) (m:Int) (hm:∀w,Holds G H w→w.cell? ⟨2,0,none⟩=some (.int .i64 m)) (d:ByteArray) (hd:d.size≤4000000):SV Tryz.prog G 40 [.string d,.string ⟨#[255]⟩,.string ⟨#[255,255]⟩] H (.string (escS d)):=
  Ak2 G H m hm d hd 255 [255,255] (Nat.le_refl _) (by decide)
theorem Ar1 (G:Ctx) (H:List Ent) (m:Int) (hm:∀w,Holds G H w→w.cell? ⟨2,0,none⟩=some (.int .i64 m)) (d:ByteArray) (hd:d.size≤4000000):SV Tryz.prog G 16 [.string d] H (.string (escS d)):=by
  have cR:=BM4 G H m hm d hd
  refine M5 Tryz.func16 rfl rfl rfl rfl rfl ?_
  repeat' (first|(apply F3;first|(apply C8;refine A8 ?_)|(apply C9;refine D8 rfl rfl ?_)|(apply D6;refine D9 rfl rfl ?_)|(apply H6;refine F9 rfl rfl rfl (cR) rfl rfl ?_))|(apply D7)|(apply H7)|(apply A7)|(apply D5))
  refine M3 (by (exact .inr rfl)) rfl N7 ?_
  rfl
end
section
set_option maxHeartbeats 1000000
/-- The receiver's cells. -/
abbrev rcC (r:Rc) (sb:ByteArray) (ab:Option Addr) (cb:Nat) (ad:Option Addr) (cd:Nat) (al:Option Addr) (cl:Nat):List Value:=
  [.int .i64 r.mode,.int .i64 r.cmd,.int .i64 r.opt,.string sb,.bool r.over,.slice ab r.buf.length cb,.slice ad r.data.length cd,.slice al r.out.length cl]
abbrev rcH (b:Nat) (r:Rc) (sb:ByteArray) (X:Ent) (ab:Option Addr) (cb:Nat) (ad:Option Addr) (cd:Nat) (al:Option Addr) (cl:Nat) (H:List Ent):List Ent:=
  .blk b 268 (rcC r sb ab cb ad cd al cl)::X:: .own 5 1 ad r.data.length cd (octs r.data):: .own 225 4 al r.out.length cl (toks r.out)::H
attribute [local irreducible] SW SL SQ AtQ SV SC BB LD PK Yields SO SOT SOA SY SP SPT SPA
theorem Al5 (G:Ctx) (H:List Ent) (b:Nat) (r:Rc) (sb:ByteArray) (X:Ent) (ab:Option Addr) (cb:Nat) (ad:Option Addr) (cd:Nat) (al:Option Addr) (cl:Nat) (hl:r.out.length≤100000000):SC Tryz.prog G 184 [.pointer (some ⟨b,0,none⟩)] (rcH b r sb X ab cb ad cd al cl H) (fun v H'=>∃a1 c1 a2 c2,v=resV []∧H'=rcH b r.flush sb X ab cb a1 c1 a2 c2 H):=by
  obtain⟨mode,cmd,opt,over,buf,data,out⟩:=r
  unfold rcH rcC
  dsimp only at hl ⊢
  by_cases hd:data=[]
  · have hf:Rc.flush ⟨mode,cmd,opt,over,buf,data,out⟩=⟨mode,cmd,opt,over,buf,data,out⟩:=by unfold Rc.flush;rw[if_pos hd]
    rw[hf]
    have hz:data.length=0:=by rw[hd];rfl
    refine Y3 Tryz.func184 rfl rfl rfl rfl rfl ?_
    repeat' (first|(apply F3;first|(apply C8;refine A8 ?_)|(apply C9;refine D8 rfl rfl ?_)|(apply E5;refine F5 rfl rfl rfl ?_;refine F7 rfl ?_)|(apply F4;refine F8 rfl rfl ?_;refine G6 rfl ?_)|(apply G7;refine G8 (E8 rfl rfl) rfl ?_)|(apply K8;refine M8 (H8 rfl rfl) rfl ?_)|(apply J5;refine s_call (Q5 rfl rfl) rfl ?_))|(apply D7)|(apply G9)|(apply A7)|(refine G5 rfl ?_;apply E9<;>intro hq<;>(try (exfalso;omega)))|(apply D5))
    all_goals (skip)
    exact M9 _ (by (exact .inl rfl)) rfl (fun _ hw=>hw) ⟨ad,cd,al,cl,rfl,rfl⟩
  · have hf:Rc.flush ⟨mode,cmd,opt,over,buf,data,out⟩=⟨mode,cmd,opt,over,buf,[],out++[dtok data]⟩:=by unfold Rc.flush;rw[if_neg hd]
    rw[hf]
    have hz:0<data.length:=List.length_pos_iff.2 hd
    refine Y3 Tryz.func184 rfl rfl rfl rfl rfl ?_
    repeat' (first|(apply F3;first|(apply C8;refine A8 ?_)|(apply C9;refine D8 rfl rfl ?_)|(apply E5;refine F5 rfl rfl rfl ?_;refine F7 rfl ?_)|(apply F4;refine F8 rfl rfl ?_;refine G6 rfl ?_)|(apply G7;refine G8 (E8 rfl rfl) rfl ?_)|(apply K8;refine M8 (H8 rfl rfl) rfl ?_)|(apply J5;refine s_call (Q5 rfl rfl) rfl ?_))|(apply D7)|((fail_if_success (refine K3 (id:=1) ?_));apply A7)|(refine G5 rfl ?_;apply E9<;>intro hq<;>(try (exfalso;omega)))|(apply D5))
    all_goals (skip)
    refine AX9 15 (.blk b 268 [.int .i64 mode,.int .i64 cmd,.int .i64 opt,.string sb,.bool over,.slice ab buf.length cb,.slice ad data.length cd,.slice al out.length cl]:: .own 5 1 ad data.length cd (octs data)::H) H I8 rfl ?_
    repeat' (first|(apply F3;first|(apply C8;refine A8 ?_)|(apply C9;refine D8 rfl rfl ?_)|(apply G7;refine G8 (E8 rfl rfl) rfl ?_)|(apply K8;refine M8 (H8 rfl rfl) rfl ?_)|(apply J5;refine R6 rfl rfl rfl rfl (by (rfl)) (by (rfl)) (by omega) rfl rfl (fun _ _=>?_))|(apply H9;refine U3 rfl rfl rfl rfl rfl rfl rfl ?_)|(apply V8;refine Ae5 rfl rfl rfl rfl rfl rfl rfl rfl rfl (fun _=>?_)))|(apply U4;refine R5 (k:=0) I8 ?_)|(apply A71;refine Ap2 (k:=0) I8 ?_)|(apply V6;first|(refine O9 rfl ?_)|(refine R4 (by decide+kernel) ?_))|(apply An8;first|(refine Aj6 rfl ?_)|(refine AT1 rfl rfl rfl rfl (by kernel_rfl) (by decide+kernel) (by decide+kernel) (by decide+kernel) ?_;first|(apply U5;refine I4 (V4 rfl rfl) ?_)|(apply U9;refine U6 rfl ?_;refine G6 rfl ?_)|(apply Q0;refine I4 (E8 rfl rfl) ?_)|(apply AH3;refine I4 (O6 rfl rfl rfl) ?_)|(apply Aq8;refine I4 (AO5 (xs:=data) rfl rfl rfl rfl) ?_)|(apply Y7;refine I4 (H8 rfl rfl) ?_))|(refine AS9 rfl ?_)|(refine AX2 (by kernel_rfl) ?_))|(apply Ak3;first|(refine AV6 rfl)|(refine Ab2 (by decide+kernel) ?_)|(refine Ac8 rfl rfl ?_ ?_)|(refine Ap8 rfl rfl ?_ ?_))|((fail_if_success (refine K3 (id:=99) ?_));apply A7)|(apply D5))
    all_goals
      rename_i bx a5 c5
      have e1:(out++[dtok data]).length=out.length+1:=by simp
      refine M9 _ (by (exact .inl rfl)) rfl (fun _ hw=>?_) ⟨none,0,a5,c5,rfl,rfl⟩
      dsimp only
      rw[e1,At8]
      exact(hw.nilrow 5 1).subs (by repeat (first|refine Subs.cons (by repeat constructor) ?_ |exact Subs.sub N7))
theorem Aj4 (G:Ctx) (H:List Ent) (b:Nat) (r:Rc) (t:Tk) (sb:ByteArray) (X:Ent) (ab:Option Addr) (cb:Nat) (ad:Option Addr) (cd:Nat) (al:Option Addr) (cl:Nat) (hl:r.out.length≤90000000):SC Tryz.prog G 227 [.pointer (some ⟨b,0,none⟩),tokV t.1 t.2.1 t.2.2.1 t.2.2.2] (rcH b r sb X ab cb ad cd al cl H) (fun v H'=>∃a1 c1 a2 c2,v=resV []∧H'=rcH b (r.tok t) sb X ab cb a1 c1 a2 c2 H):=by
  have cF:=fun H=>Al5 G H b r sb X ab cb ad cd al cl (by omega)
  have hfl:r.flush.out.length≤90000001:=by rw[BV5,List.length_append];unfold Rc.opn;split<;>simp<;>omega
  unfold Rc.tok
  generalize r.flush=f at *
  obtain⟨mode,cmd,opt,over,buf,data,out⟩:=f
  dsimp only at hfl ⊢
  obtain⟨t1,t2,t3,t4⟩:=t
  refine J3 Tryz.func227 rfl rfl rfl rfl rfl ?_
  repeat' (first|(apply F3;first|(apply C8;refine A8 ?_)|(apply C9;refine D8 rfl rfl ?_)|(apply K9;refine O5 rfl rfl rfl rfl rfl rfl (fun _=>?_)))|(apply D7)|((fail_if_success (refine K3 (id:=2) ?_));apply A7)|(apply D5))
  rename_i bx
  refine AV7 (H':=rcH b r sb X ab cb ad cd al cl (.blk bx 225 [.int .i64 t1,.int .i64 t2,.int .i64 t3,.string t4]::H)) (fun _ hw=>by unfold rcH at hw ⊢;exact hw.subs (by repeat (first|refine Subs.cons (by repeat constructor) ?_ |exact Subs.sub N7))) ?_
  repeat' (first|(apply F3;first|(apply C8;refine A8 ?_)|(apply H6;refine c_call rfl rfl rfl (cF _) rfl rfl ?_;rintro _ _ ⟨a1,k1,a2,k2,rfl,rfl⟩))|(apply D5))
  unfold rcH rcC
  dsimp only
  refine AX9 10 (.blk b 268 [.int .i64 mode,.int .i64 cmd,.int .i64 opt,.string sb,.bool over,.slice ab buf.length cb,.slice a1 data.length k1,.slice a2 out.length k2]:: .blk bx 225 [.int .i64 t1,.int .i64 t2,.int .i64 t3,.string t4]::H) H I8 rfl ?_
  repeat' (first|(apply F3;first|(apply C8;refine A8 ?_)|(apply J5;refine R6 rfl rfl rfl rfl (by (rfl)) (by (rfl)) (by omega) rfl rfl (fun _ _=>?_))|(apply H9;refine U3 rfl rfl rfl rfl rfl rfl rfl ?_)|(apply V8;refine Ae5 rfl rfl rfl rfl rfl rfl rfl rfl rfl (fun _=>?_)))|(apply U4;refine R5 (k:=0) I8 ?_)|(apply A71;refine Ap2 (k:=0) I8 ?_)|(apply V6;first|(refine O9 rfl ?_)|(refine R4 (by decide+kernel) ?_))|(apply An8;first|(refine Aj6 rfl ?_)|(refine AT1 rfl rfl rfl rfl (by kernel_rfl) (by decide+kernel) (by decide+kernel) (by decide+kernel) ?_;first|(apply U5;refine I4 (V4 rfl rfl) ?_)|(apply U9;refine U6 rfl ?_;first|refine G6 rfl ?_ |refine K5 rfl ?_)|(apply Q0;refine I4 (E8 rfl rfl) ?_)|(apply Y7;refine I4 (H8 rfl rfl) ?_))|(refine AS9 rfl ?_)|(refine AX2 (by kernel_rfl) ?_))|(apply Ak3;first|(refine AV6 rfl)|(refine Ab2 (by decide+kernel) ?_)|(refine Ac8 rfl rfl ?_ ?_)|(refine Ap8 rfl rfl ?_ ?_)))
  all_goals
    rename_i bx a5 c5
    have e1:(out++[((t1,t2,t3,t4):Tk)]).length=out.length+1:=by simp
    refine M9 _ (by (exact .inl rfl)) rfl (fun _ hw=>?_) ⟨a1,k1,a5,c5,rfl,rfl⟩
    rw[e1,At8]
    exact hw.subs (by repeat (first|refine Subs.cons (by repeat constructor) ?_ |exact Subs.sub N7))
theorem Bc8 (r:Rc) (m:Int) (t:Tk):({r with mode:=m}:Rc).tok t={r.tok t with mode:=m}:=by
  unfold Rc.tok Rc.flush
  split<;>rfl
theorem Ax1 (G:Ctx) (H:List Ent) (b:Nat) (r:Rc) (c:Int) (sb:ByteArray) (X:Ent) (ab:Option Addr) (cb:Nat) (ad:Option Addr) (cd:Nat) (al:Option Addr) (cl:Nat) (hX:BufE 5 X ab r.buf.length cb r.buf) (hl:r.buf.length≤4096):SC Tryz.prog G 228 [.pointer (some ⟨b,0,none⟩),.int .u8 c] (rcH b r sb X ab cb ad cd al cl H) (fun v H'=>∃X' a1 c1,BufE 5 X' a1 (r.sub c).buf.length c1 (r.sub c).buf∧v=resV []∧H'=rcH b (r.sub c) sb X' a1 c1 ad cd al cl H):=by
  unfold rcH rcC Rc.sub
  by_cases h1:r.buf.length=4096
  · simp only[if_pos h1]
    refine J3 Tryz.func228 rfl rfl rfl rfl rfl ?_
    repeat' (first|(apply F3;first|(apply C8;refine A8 ?_)|(apply C9;refine D8 rfl rfl ?_)|(apply E5;refine F5 rfl rfl rfl ?_;refine F7 rfl ?_)|(apply F4;refine F8 rfl rfl ?_;refine G6 rfl ?_)|(apply G7;refine G8 (E8 rfl rfl) rfl ?_)|(apply Y0;refine Z8 (Z7 rfl rfl rfl) rfl ?_)|(apply K8;refine M8 (H8 rfl rfl) rfl ?_)|(apply J5;refine s_call (Q5 rfl rfl) rfl ?_)|(apply H9;refine U3 rfl rfl rfl rfl rfl rfl rfl ?_))|(apply D7)|(apply G9)|(apply A7)|(refine G5 rfl ?_;first|(apply I5)|(apply E9<;>intro hq<;>(try (exfalso;omega))))|(apply D5))
    all_goals (skip)
    exact M9 _ (by (exact .inl rfl)) rfl (fun _ hw=>(hw.nilrow _ _).subs (by repeat (first|refine Subs.cons (by repeat constructor) ?_ |exact Subs.sub N7))) ⟨_,none,0,.own none 0 0 [],rfl,rfl⟩
  · simp only[if_neg h1]
    cases ho:r.over with
    | true=>
      simp only[if_true]
      refine J3 Tryz.func228 rfl rfl rfl rfl rfl ?_
      repeat' (first|(apply F3;first|(apply C8;refine A8 ?_)|(apply C9;refine D8 rfl rfl ?_)|(apply E5;refine F5 rfl rfl rfl ?_;refine F7 rfl ?_)|(apply F4;refine F8 rfl rfl ?_;refine G6 rfl ?_)|(apply G7;refine G8 (E8 rfl rfl) rfl ?_)|(apply Y0;refine Z8 (Z7 rfl rfl rfl) rfl ?_)|(apply K8;refine M8 (H8 rfl rfl) rfl ?_)|(apply J5;refine s_call (Q5 rfl rfl) rfl ?_))|(apply D7)|(apply G9)|(apply A7)|(refine G5 rfl ?_;first|(apply I5)|(apply E9<;>intro hq<;>(try (exfalso;omega))))|(apply D5))
      all_goals (skip)
      exact M9 _ (by first|exact .inl rfl|exact .inr rfl) rfl (fun _ hw=>hw) ⟨X,ab,cb,hX,rfl,by rw[ho]⟩
    | false=>
      simp only[Bool.false_eq_true,if_false]
      refine J3 Tryz.func228 rfl rfl rfl rfl rfl ?_
      repeat' (first|(apply F3;first|(apply C8;refine A8 ?_)|(apply C9;refine D8 rfl rfl ?_)|(apply E5;refine F5 rfl rfl rfl ?_;refine F7 rfl ?_)|(apply F4;refine F8 rfl rfl ?_;refine G6 rfl ?_)|(apply G7;refine G8 (E8 rfl rfl) rfl ?_)|(apply Y0;refine Z8 (Z7 rfl rfl rfl) rfl ?_)|(apply K8;refine M8 (H8 rfl rfl) rfl ?_)|(apply J5;first|(refine BT1 hX rfl rfl rfl rfl (by omega) rfl rfl (fun _ _ _ _=>?_))|refine s_call (Q5 rfl rfl) rfl ?_)|(apply H9;refine U3 rfl rfl rfl rfl rfl rfl rfl ?_)|(apply V8;refine M7 rfl rfl rfl rfl rfl rfl rfl rfl rfl rfl (fun _=>?_)))|(apply D7)|(apply G9)|(apply A7)|(refine G5 rfl ?_;first|(apply I7)|(apply E9<;>intro hq<;>(try (exfalso;omega))))|(apply D5))
      all_goals (skip)
      rename_i X' a1 c1 hX'
      have e1:(r.buf++[c]).length=r.buf.length+1:=by simp
      refine M9 _ (by (exact .inl rfl)) rfl ?_ ⟨X',a1,c1,by rw[e1];exact hX',rfl,rfl⟩
      rw[e1]
      exact I8
theorem Bi8 (G:Ctx) (H:List Ent) (b:Nat) (r:Rc) (c:Int) (hc:0≤c∧c≤255) (sb:ByteArray) (X:Ent) (ab:Option Addr) (cb:Nat) (ad:Option Addr) (cd:Nat) (al:Option Addr) (cl:Nat) (hX:BufE 5 X ab r.buf.length cb r.buf) (hl:r.out.length≤90000000):SC Tryz.prog G 229 [.pointer (some ⟨b,0,none⟩),.int .u8 c] (rcH b r sb X ab cb ad cd al cl H) (fun v H'=>∃sb' X' a0 c0 a1 c1 a2 c2,BufE 5 X' a0 (r.fin c).buf.length c0 (r.fin c).buf∧v=resV []∧H'=rcH b (r.fin c) sb' X' a0 c0 a1 c1 a2 c2 H):=by
  haveI:=fun H=>hX.rd (G:=G) H
  have fin:∀t,r.finT c=t→r.fin c={r.tok t with mode:=0,cmd:=0,opt:=0,over:=false,buf:=[]}:=fun t ht=>by subst ht;rfl
  obtain⟨mode,cmd,opt,over,buf,data,out⟩:=r
  dsimp only at hX hl fin ⊢
  have cT:=fun H t=>Aj4 G H b ⟨mode,cmd,opt,over,buf,data,out⟩ t sb X ab cb ad cd al cl hl
  by_cases h1:c=240
  · subst h1
    cases over with
    | true=>
      have hT:Rc.finT ⟨mode,cmd,opt,true,buf,data,out⟩ 240=(5,250,opt,noB):=rfl
      rw[fin _ hT]
      have cT1:=fun H=>cT H (5,250,opt,noB)
      generalize Rc.tok ⟨mode,cmd,opt,true,buf,data,out⟩ (5,250,opt,noB)=q at *
      refine J3 Tryz.func229 rfl rfl rfl rfl rfl ?_
      repeat' (first|(apply F3;first|(apply C8;refine A8 ?_)|(apply C9;refine D8 rfl rfl ?_)|(apply E5;refine F5 rfl rfl rfl ?_;refine F7 rfl ?_)|(apply F4;refine F8 rfl rfl ?_;refine G6 rfl ?_)|(apply D6;refine D9 rfl rfl ?_)|(apply I6;refine I9 rfl rfl ?_;apply Q9;refine Q8 rfl ?_)|(apply G7;refine G8 (E8 rfl rfl) rfl ?_)|(apply P5;refine R7 (O6 rfl rfl rfl) rfl ?_)|(apply K8;refine M8 (H8 rfl rfl) rfl ?_)|(apply H6;refine c_call rfl rfl rfl (cT1 _) rfl rfl ?_;rintro _ _ ⟨a1,k1,a2,k2,rfl,rfl⟩)|(apply H9;first|refine U3 rfl rfl rfl rfl rfl rfl rfl ?_ |(refine AO8 rfl rfl rfl rfl rfl rfl (Nat.le_of_ble_eq_true rfl) rfl ?_))|(apply I1;refine J9 rfl rfl rfl rfl ?_;apply I7))|(apply D7)|(apply F6)|(apply A7)|(refine G5 rfl ?_;apply I7)|(apply D5)|(apply J2))
      refine M9 _ (by (exact .inl rfl)) rfl ?_ ⟨noB,_,none,0,a1,k1,a2,k2,.own none 0 0 [],rfl,rfl⟩
      exact fun _ hw=>(hw.nilrow 5 1).subs (by repeat (first|refine Subs.cons (by repeat constructor) ?_ |exact Subs.sub N7))
    | false=>
      have hT:Rc.finT ⟨mode,cmd,opt,false,buf,data,out⟩ 240=(4,0,opt,strOfNums buf):=rfl
      rw[fin _ hT]
      have cT1:=fun H=>cT H (4,0,opt,strOfNums buf)
      generalize Rc.tok ⟨mode,cmd,opt,false,buf,data,out⟩ (4,0,opt,strOfNums buf)=q at *
      refine J3 Tryz.func229 rfl rfl rfl rfl rfl ?_
      repeat' (first|(apply F3;first|(apply C8;refine A8 ?_)|(apply C9;refine D8 rfl rfl ?_)|(apply E5;refine F5 rfl rfl rfl ?_;refine F7 rfl ?_)|(apply F4;refine F8 rfl rfl ?_;refine G6 rfl ?_)|(apply D6;refine D9 rfl rfl ?_)|(apply I6;refine I9 rfl rfl ?_;apply Q9;refine Q8 rfl ?_)|(apply G7;refine G8 (E8 rfl rfl) rfl ?_)|(apply K8;refine M8 (H8 rfl rfl) rfl ?_)|(apply I1;refine J9 rfl rfl rfl rfl ?_;apply I7))|(apply D7)|(apply F6)|((fail_if_success (refine K3 (id:=4) ?_));apply A7)|(refine G5 rfl ?_;first|(apply I7)|(apply I5))|(apply D5))
      all_goals (skip)
      refine AX9 12 (rcH b ⟨mode,cmd,opt,false,buf,data,out⟩ sb X ab cb ad cd al cl H) H (fun _ hw=>hw) rfl ?_
      repeat' (first|(apply F3;first|(apply C8;refine A8 ?_)|(apply C9;refine D8 rfl rfl ?_)|(apply G7;refine G8 (E8 rfl rfl) rfl ?_)|(apply P5;refine R7 (O6 rfl rfl rfl) rfl ?_)|(apply K8;refine M8 (H8 rfl rfl) rfl ?_)|(apply H6;refine c_call rfl rfl rfl (cT1 _) rfl rfl ?_;rintro _ _ ⟨a1,k1,a2,k2,rfl,rfl⟩)|(apply H9;first|refine U3 rfl rfl rfl rfl rfl rfl rfl ?_ |(refine AO8 rfl rfl rfl rfl rfl rfl (Nat.le_of_ble_eq_true rfl) rfl ?_)))|(apply U4;refine R5 (k:=0) I8 ?_)|(apply V6;first|(refine O9 rfl ?_)|(refine R4 (by decide+kernel) ?_))|(apply An8;first|(refine AT1 rfl rfl rfl rfl (by kernel_rfl) (by decide+kernel) (by decide+kernel) (by decide+kernel) ?_;first|(apply U5;refine I4 (V4 rfl rfl) ?_)|(apply U9;refine U6 rfl ?_;refine G6 rfl ?_)|(apply Q0;refine I4 (E8 rfl rfl) ?_)|(apply AH3;refine I4 (O6 rfl rfl rfl) ?_)|(apply Aq8;refine I4 (AO5 (xs:=buf) rfl rfl rfl rfl) ?_)|(apply Y7;refine I4 (H8 rfl rfl) ?_))|(refine AS9 rfl ?_)|(refine AX2 (by kernel_rfl) ?_))|(apply Ak3;first|(refine AV6 rfl)|(refine Ab2 (by decide+kernel) ?_)|(refine Ac8 rfl rfl ?_ ?_))|((fail_if_success (refine K3 (id:=99) ?_));apply A7)|(apply D5)|(apply J2))
      refine M9 _ (by (exact .inl rfl)) rfl ?_ ⟨noB,_,none,0,a1,k1,a2,k2,.own none 0 0 [],rfl,rfl⟩
      exact fun _ hw=>(hw.nilrow 5 1).subs (by repeat (first|refine Subs.cons (by repeat constructor) ?_ |exact Subs.sub N7))
  · have hT:Rc.finT ⟨mode,cmd,opt,over,buf,data,out⟩ c=(5,c,opt,noB):=by unfold Rc.finT;rw[if_neg h1]
    rw[fin _ hT]
    have cT1:=fun H=>cT H (5,c,opt,noB)
    generalize Rc.tok ⟨mode,cmd,opt,over,buf,data,out⟩ (5,c,opt,noB)=q at *
    refine J3 Tryz.func229 rfl rfl rfl rfl rfl ?_
    repeat' (first|(apply F3;first|(apply C8;refine A8 ?_)|(apply C9;refine D8 rfl rfl ?_)|(apply E5;refine F5 rfl rfl rfl ?_;refine F7 rfl ?_)|(apply F4;refine F8 rfl rfl ?_;refine G6 rfl ?_)|(apply D6;refine D9 rfl rfl ?_)|(apply I6;refine I9 rfl rfl ?_;apply O1;refine O3 rfl ?_)|(apply G7;refine G8 (E8 rfl rfl) rfl ?_)|(apply P5;refine R7 (O6 rfl rfl rfl) rfl ?_)|(apply p8;refine x9 (AA5 (k:= .i64) rfl rfl ⟨by omega,by omega⟩) rfl ?_)|(apply K8;refine M8 (H8 rfl rfl) rfl ?_)|(apply H6;refine c_call rfl rfl rfl (cT1 _) rfl rfl ?_;rintro _ _ ⟨a1,k1,a2,k2,rfl,rfl⟩)|(apply H9;first|refine U3 rfl rfl rfl rfl rfl rfl rfl ?_ |(refine AO8 rfl rfl rfl rfl rfl rfl (Nat.le_of_ble_eq_true rfl) rfl ?_))|(apply I1;refine J9 rfl rfl rfl rfl ?_;first|(apply I5)|(apply E9<;>intro hq<;>(try (exfalso;omega)))))|(apply D7)|(apply F6)|(apply A7)|(refine G5 rfl ?_;first|(apply I5)|(apply E9<;>intro hq<;>(try (exfalso;omega))))|(apply D5)|(apply J2))
    all_goals (skip)
    refine M9 _ (by (exact .inl rfl)) rfl ?_ ⟨noB,_,none,0,a1,k1,a2,k2,.own none 0 0 [],rfl,rfl⟩
    exact fun _ hw=>(hw.nilrow 5 1).subs (by repeat (first|refine Subs.cons (by repeat constructor) ?_ |exact Subs.sub N7))
theorem Bd4 (G:Ctx) (H:List Ent) (b:Nat) (r:Rc) (c:Int) (hc:0≤c∧c≤255) (sb:ByteArray) (X:Ent) (ab:Option Addr) (cb:Nat) (ad:Option Addr) (cd:Nat) (al:Option Addr) (cl:Nat) (hl:r.out.length≤90000000) (hd:r.data.length≤90000000):SC Tryz.prog G 226 [.pointer (some ⟨b,0,none⟩),.int .u8 c] (rcH b r sb X ab cb ad cd al cl H) (fun v H'=>∃a1 c1 a2 c2,v=resV []∧H'=rcH b (r.com c) sb X ab cb a1 c1 a2 c2 H):=by
  have cT:=fun H t=>Aj4 G H b {r with mode:=0} t sb X ab cb ad cd al cl hl
  simp only[Bc8] at cT
  unfold Rc.com
  by_cases h1:c=255
  · rw[if_pos h1]
    refine J3 Tryz.func226 rfl rfl rfl rfl rfl ?_
    repeat' (first|(apply F3;first|(apply C8;refine A8 ?_)|(apply C9;refine D8 rfl rfl ?_)|(apply E5;refine F5 rfl rfl rfl ?_;refine F7 rfl ?_)|(apply F4;refine F8 rfl rfl ?_;refine G6 rfl ?_)|(apply D6;refine D9 rfl rfl ?_)|(apply G7;refine G8 (E8 rfl rfl) rfl ?_)|(apply K8;refine M8 (H8 rfl rfl) rfl ?_)|(apply J5;refine R6 rfl rfl rfl rfl (by (rfl)) (by (rfl)) (by omega) rfl rfl (fun _ _=>?_))|(apply H9;refine U3 rfl rfl rfl rfl rfl rfl rfl ?_)|(apply V8;refine M7 rfl rfl rfl rfl rfl rfl rfl rfl rfl rfl (fun _=>?_)))|(apply D7)|(apply F6)|(apply A7)|(refine G5 rfl ?_;apply E9<;>intro hq<;>(try (exfalso;omega)))|(apply D5)|(apply J2))
    all_goals (skip)
    rename_i b9 a1 c1
    have e1:(r.data++[c]).length=r.data.length+1:=by simp
    have e2:octs (r.data++[c])=octs r.data++[.int .u8 c]:=by simp [octs]
    refine M9 _ (by (exact .inl rfl)) rfl ?_ ⟨a1,c1,al,cl,rfl,rfl⟩
    unfold rcH rcC
    dsimp only
    rw[e1,e2]
    exact I8
  rw[if_neg h1]
  by_cases h2:251≤c
  · rw[if_pos h2]
    refine J3 Tryz.func226 rfl rfl rfl rfl rfl ?_
    repeat' (first|(apply F3;first|(apply C8;refine A8 ?_)|(apply C9;refine D8 rfl rfl ?_)|(apply E5;refine F5 rfl rfl rfl ?_;refine F7 rfl ?_)|(apply D6;refine D9 rfl rfl ?_)|(apply G7;refine G8 (E8 rfl rfl) rfl ?_)|(apply p8;refine x9 (AA5 (k:= .i64) rfl rfl ⟨by omega,by omega⟩) rfl ?_)|(apply K8;refine M8 (H8 rfl rfl) rfl ?_)|(apply H9;refine U3 rfl rfl rfl rfl rfl rfl rfl ?_))|(apply D7)|(apply F6)|(apply A7)|(refine G5 rfl ?_;apply E9<;>intro hq<;>(try (exfalso;omega)))|(apply D5)|(apply J2))
    all_goals (skip)
    exact M9 _ (by (exact .inl rfl)) rfl (fun _ hw=>hw) ⟨ad,cd,al,cl,rfl,rfl⟩
  rw[if_neg h2]
  by_cases h3:c=250
  · rw[if_pos h3]
    refine J3 Tryz.func226 rfl rfl rfl rfl rfl ?_
    repeat' (first|(apply F3;first|(apply C8;refine A8 ?_)|(apply C9;refine D8 rfl rfl ?_)|(apply E5;refine F5 rfl rfl rfl ?_;refine F7 rfl ?_)|(apply D6;refine D9 rfl rfl ?_)|(apply G7;refine G8 (E8 rfl rfl) rfl ?_)|(apply K8;refine M8 (H8 rfl rfl) rfl ?_)|(apply H9;refine U3 rfl rfl rfl rfl rfl rfl rfl ?_))|(apply D7)|(apply F6)|(apply A7)|(refine G5 rfl ?_;apply E9<;>intro hq<;>(try (exfalso;omega)))|(apply D5)|(apply J2))
    all_goals (skip)
    exact M9 _ (by (exact .inl rfl)) rfl (fun _ hw=>hw) ⟨ad,cd,al,cl,rfl,rfl⟩
  rw[if_neg h3]
  by_cases h4:240≤c
  · rw[if_pos h4]
    have cT1:=fun H=>cT H (2,c,0,noB)
    refine J3 Tryz.func226 rfl rfl rfl rfl rfl ?_
    repeat' (first|(apply F3;first|(apply C8;refine A8 ?_)|(apply C9;refine D8 rfl rfl ?_)|(apply E5;refine F5 rfl rfl rfl ?_;refine F7 rfl ?_)|(apply D6;refine D9 rfl rfl ?_)|(apply G7;refine G8 (E8 rfl rfl) rfl ?_)|(apply P5;refine R7 (O6 rfl rfl rfl) rfl ?_)|(apply p8;refine x9 (AA5 (k:= .i64) rfl rfl ⟨by omega,by omega⟩) rfl ?_)|(apply K8;refine M8 (H8 rfl rfl) rfl ?_)|(apply H6;refine c_call rfl rfl rfl (cT1 _) rfl rfl ?_;rintro _ _ ⟨a1,k1,a2,k2,rfl,rfl⟩)|(apply H9;refine U3 rfl rfl rfl rfl rfl rfl rfl ?_))|(apply D7)|(apply F6)|(apply A7)|(refine G5 rfl ?_;apply E9<;>intro hq<;>(try (exfalso;omega)))|(apply D5)|(apply J2))
    all_goals (skip)
    exact M9 _ (by (exact .inl rfl)) rfl (fun _ hw=>hw) ⟨a1,k1,a2,k2,rfl,rfl⟩
  · rw[if_neg h4]
    have cT1:=fun H=>cT H (5,c,0,noB)
    refine J3 Tryz.func226 rfl rfl rfl rfl rfl ?_
    repeat' (first|(apply F3;first|(apply C8;refine A8 ?_)|(apply C9;refine D8 rfl rfl ?_)|(apply E5;refine F5 rfl rfl rfl ?_;refine F7 rfl ?_)|(apply D6;refine D9 rfl rfl ?_)|(apply G7;refine G8 (E8 rfl rfl) rfl ?_)|(apply P5;refine R7 (O6 rfl rfl rfl) rfl ?_)|(apply p8;refine x9 (AA5 (k:= .i64) rfl rfl ⟨by omega,by omega⟩) rfl ?_)|(apply K8;refine M8 (H8 rfl rfl) rfl ?_)|(apply H6;refine c_call rfl rfl rfl (cT1 _) rfl rfl ?_;rintro _ _ ⟨a1,k1,a2,k2,rfl,rfl⟩)|(apply H9;refine U3 rfl rfl rfl rfl rfl rfl rfl ?_))|(apply D7)|(apply F6)|(apply A7)|(refine G5 rfl ?_;apply E9<;>intro hq<;>(try (exfalso;omega)))|(apply D5)|(apply J2))
    all_goals (skip)
    exact M9 _ (by (exact .inl rfl)) rfl (fun _ hw=>hw) ⟨a1,k1,a2,k2,rfl,rfl⟩
theorem BZ8 (G:Ctx) (H:List Ent) (b:Nat) (r:Rc) (c:Int) (hc:0≤c∧c≤255) (sb:ByteArray) (X:Ent) (ab:Option Addr) (cb:Nat) (ad:Option Addr) (cd:Nat) (al:Option Addr) (cl:Nat) (hX:BufE 5 X ab r.buf.length cb r.buf) (hm:0≤r.mode∧r.mode≤5) (hb:r.buf.length≤4096) (hl:r.out.length≤90000000) (hd:r.data.length≤90000000):SC Tryz.prog G 183 [.pointer (some ⟨b,0,none⟩),.int .u8 c] (rcH b r sb X ab cb ad cd al cl H) (fun v H'=>∃sb' X' a0 c0 a1 c1 a2 c2,BufE 5 X' a0 (r.take c).buf.length c0 (r.take c).buf∧v=resV []∧H'=rcH b (r.take c) sb' X' a0 c0 a1 c1 a2 c2 H):=by
  have cC:=fun H=>Bd4 G H b r c hc sb X ab cb ad cd al cl hl hd
  have cT:=fun H=>Aj4 G H b r (3,r.cmd,c,noB) sb X ab cb ad cd al cl hl
  have cS:=fun H=>Ax1 G H b r c sb X ab cb ad cd al cl hX hb
  have cS4:=fun H=>Ax1 G H b {r with mode:=4} c sb X ab cb ad cd al cl hX hb
  have cE:=fun H=>Bi8 G H b r c hc sb X ab cb ad cd al cl hX hl
  have htb:∀t,(r.tok t).buf=r.buf:=fun t=>(A66 r t).2.2.2.2
  have hcb:(r.com c).buf=r.buf:=by
    unfold Rc.com
    split
    · rfl
    split
    · rfl
    split
    · rfl
    split
    · exact htb (2,c,0,noB)
    · exact htb (5,c,0,noB)
  rcases (by omega:r.mode=0∨r.mode=1∨r.mode=2∨r.mode=3∨r.mode=4∨r.mode=5) with h|h|h|h|h|h
  · rw[Rc.t0 h]
    by_cases h1:c=255
    · rw[if_pos h1]
      refine J3 Tryz.func183 rfl rfl rfl rfl rfl ?_
      repeat' (first|(apply F3;first|(apply C8;refine A8 ?_)|(apply C9;refine D8 rfl rfl ?_)|(apply E5;refine F5 rfl rfl rfl ?_;refine F7 rfl ?_)|(apply F4;refine F8 rfl rfl ?_;refine G6 rfl ?_)|(apply D6;refine D9 rfl rfl ?_)|(apply G7;refine G8 (E8 rfl rfl) rfl ?_)|(apply K8;refine M8 (H8 rfl rfl) rfl ?_)|(apply H9;refine U3 rfl rfl rfl rfl rfl rfl rfl ?_))|(apply D7)|(apply F6)|(apply A7)|(refine G5 rfl ?_;apply E9<;>intro hq<;>(try (exfalso;omega)))|(apply D5)|(apply J2))
      all_goals (skip)
      exact M9 _ (by (exact .inl rfl)) rfl (fun _ hw=>hw) ⟨sb,X,ab,cb,ad,cd,al,cl,hX,rfl,rfl⟩
    · rw[if_neg h1]
      refine J3 Tryz.func183 rfl rfl rfl rfl rfl ?_
      repeat' (first|(apply F3;first|(apply C8;refine A8 ?_)|(apply C9;refine D8 rfl rfl ?_)|(apply E5;refine F5 rfl rfl rfl ?_;refine F7 rfl ?_)|(apply F4;refine F8 rfl rfl ?_;refine G6 rfl ?_)|(apply D6;refine D9 rfl rfl ?_)|(apply G7;refine G8 (E8 rfl rfl) rfl ?_)|(apply K8;refine M8 (H8 rfl rfl) rfl ?_)|(apply J5;refine R6 rfl rfl rfl rfl (by (rfl)) (by (rfl)) (by omega) rfl rfl (fun _ _=>?_))|(apply H9;refine U3 rfl rfl rfl rfl rfl rfl rfl ?_)|(apply V8;refine M7 rfl rfl rfl rfl rfl rfl rfl rfl rfl rfl (fun _=>?_)))|(apply D7)|(apply F6)|(apply A7)|(refine G5 rfl ?_;apply E9<;>intro hq<;>(try (exfalso;omega)))|(apply D5)|(apply J2))
      all_goals (skip)
      rename_i b9 a1 c1
      have e1:(r.data++[c]).length=r.data.length+1:=by simp
      have e2:octs (r.data++[c])=octs r.data++[.int .u8 c]:=by simp [octs]
      refine M9 _ (by (exact .inl rfl)) rfl ?_ ⟨sb,X,ab,cb,a1,c1,al,cl,hX,rfl,rfl⟩
      unfold rcH rcC
      dsimp only
      rw[e1,e2]
      exact I8
  · rw[Rc.t1 h]
    refine J3 Tryz.func183 rfl rfl rfl rfl rfl ?_
    repeat' (first|(apply F3;first|(apply C8;refine A8 ?_)|(apply C9;refine D8 rfl rfl ?_)|(apply E5;refine F5 rfl rfl rfl ?_;refine F7 rfl ?_)|(apply F4;refine F8 rfl rfl ?_;refine G6 rfl ?_)|(apply D6;refine D9 rfl rfl ?_)|(apply G7;refine G8 (E8 rfl rfl) rfl ?_)|(apply K8;refine M8 (H8 rfl rfl) rfl ?_)|(apply H6;refine c_call rfl rfl rfl (cC _) rfl rfl ?_;rintro _ _ ⟨a1,k1,a2,k2,rfl,rfl⟩))|(apply D7)|(apply F6)|(apply A7)|(refine G5 rfl ?_;apply E9<;>intro hq<;>(try (exfalso;omega)))|(apply D5)|(apply J2))
    all_goals (skip)
    exact M9 _ (by (exact .inl rfl)) rfl (fun _ hw=>hw) ⟨sb,X,ab,cb,a1,k1,a2,k2,by rw[hcb];exact hX,rfl,rfl⟩
  · rw[Rc.t2 h]
    refine J3 Tryz.func183 rfl rfl rfl rfl rfl ?_
    repeat' (first|(apply F3;first|(apply C8;refine A8 ?_)|(apply C9;refine D8 rfl rfl ?_)|(apply E5;refine F5 rfl rfl rfl ?_;refine F7 rfl ?_)|(apply F4;refine F8 rfl rfl ?_;refine G6 rfl ?_)|(apply D6;refine D9 rfl rfl ?_)|(apply G7;refine G8 (E8 rfl rfl) rfl ?_)|(apply P5;refine R7 (O6 rfl rfl rfl) rfl ?_)|(apply p8;refine x9 (AA5 (k:= .i64) rfl rfl ⟨by omega,by omega⟩) rfl ?_)|(apply K8;refine M8 (H8 rfl rfl) rfl ?_)|(apply H6;refine c_call rfl rfl rfl (cT _) rfl rfl ?_;rintro _ _ ⟨a1,k1,a2,k2,rfl,rfl⟩)|(apply H9;refine U3 rfl rfl rfl rfl rfl rfl rfl ?_))|(apply D7)|(apply F6)|(apply A7)|(refine G5 rfl ?_;apply E9<;>intro hq<;>(try (exfalso;omega)))|(apply D5)|(apply J2))
    all_goals (skip)
    exact M9 _ (by (exact .inl rfl)) rfl (fun _ hw=>hw) ⟨sb,X,ab,cb,a1,k1,a2,k2,by dsimp only;rw[htb];exact hX,rfl,rfl⟩
  · rw[Rc.t3 h]
    refine J3 Tryz.func183 rfl rfl rfl rfl rfl ?_
    repeat' (first|(apply F3;first|(apply C8;refine A8 ?_)|(apply C9;refine D8 rfl rfl ?_)|(apply E5;refine F5 rfl rfl rfl ?_;refine F7 rfl ?_)|(apply F4;refine F8 rfl rfl ?_;refine G6 rfl ?_)|(apply D6;refine D9 rfl rfl ?_)|(apply G7;refine G8 (E8 rfl rfl) rfl ?_)|(apply p8;refine x9 (AA5 (k:= .i64) rfl rfl ⟨by omega,by omega⟩) rfl ?_)|(apply K8;refine M8 (H8 rfl rfl) rfl ?_)|(apply H9;refine U3 rfl rfl rfl rfl rfl rfl rfl ?_))|(apply D7)|(apply F6)|(apply A7)|(refine G5 rfl ?_;apply E9<;>intro hq<;>(try (exfalso;omega)))|(apply D5)|(apply J2))
    all_goals (skip)
    exact M9 _ (by (exact .inl rfl)) rfl (fun _ hw=>hw) ⟨sb,X,ab,cb,ad,cd,al,cl,hX,rfl,rfl⟩
  · rw[Rc.t4 h]
    by_cases h1:c=255
    · rw[if_pos h1]
      refine J3 Tryz.func183 rfl rfl rfl rfl rfl ?_
      repeat' (first|(apply F3;first|(apply C8;refine A8 ?_)|(apply C9;refine D8 rfl rfl ?_)|(apply E5;refine F5 rfl rfl rfl ?_;refine F7 rfl ?_)|(apply F4;refine F8 rfl rfl ?_;refine G6 rfl ?_)|(apply D6;refine D9 rfl rfl ?_)|(apply G7;refine G8 (E8 rfl rfl) rfl ?_)|(apply K8;refine M8 (H8 rfl rfl) rfl ?_)|(apply H9;refine U3 rfl rfl rfl rfl rfl rfl rfl ?_))|(apply D7)|(apply F6)|(apply A7)|(refine G5 rfl ?_;apply E9<;>intro hq<;>(try (exfalso;omega)))|(apply D5)|(apply J2))
      all_goals (skip)
      exact M9 _ (by (exact .inl rfl)) rfl (fun _ hw=>hw) ⟨sb,X,ab,cb,ad,cd,al,cl,hX,rfl,rfl⟩
    · rw[if_neg h1]
      refine J3 Tryz.func183 rfl rfl rfl rfl rfl ?_
      repeat' (first|(apply F3;first|(apply C8;refine A8 ?_)|(apply C9;refine D8 rfl rfl ?_)|(apply E5;refine F5 rfl rfl rfl ?_;refine F7 rfl ?_)|(apply F4;refine F8 rfl rfl ?_;refine G6 rfl ?_)|(apply D6;refine D9 rfl rfl ?_)|(apply G7;refine G8 (E8 rfl rfl) rfl ?_)|(apply K8;refine M8 (H8 rfl rfl) rfl ?_)|(apply H6;refine c_call rfl rfl rfl (cS _) rfl rfl ?_;rintro _ _ ⟨X1,a1,k1,hX1,rfl,rfl⟩))|(apply D7)|(apply F6)|(apply A7)|(refine G5 rfl ?_;apply E9<;>intro hq<;>(try (exfalso;omega)))|(apply D5)|(apply J2))
      all_goals (skip)
      exact M9 _ (by (exact .inl rfl)) rfl (fun _ hw=>hw) ⟨sb,X1,a1,k1,ad,cd,al,cl,hX1,rfl,rfl⟩
  · rw[Rc.t5 h]
    by_cases h1:c=255
    · rw[if_pos h1]
      refine J3 Tryz.func183 rfl rfl rfl rfl rfl ?_
      repeat' (first|(apply F3;first|(apply C8;refine A8 ?_)|(apply C9;refine D8 rfl rfl ?_)|(apply E5;refine F5 rfl rfl rfl ?_;refine F7 rfl ?_)|(apply F4;refine F8 rfl rfl ?_;refine G6 rfl ?_)|(apply D6;refine D9 rfl rfl ?_)|(apply G7;refine G8 (E8 rfl rfl) rfl ?_)|(apply K8;refine M8 (H8 rfl rfl) rfl ?_)|(apply H6;refine c_call rfl rfl rfl (cS4 _) rfl rfl ?_;rintro _ _ ⟨X1,a1,k1,hX1,rfl,rfl⟩)|(apply H9;refine U3 rfl rfl rfl rfl rfl rfl rfl ?_))|(apply D7)|(apply F6)|(apply A7)|(refine G5 rfl ?_;apply E9<;>intro hq<;>(try (exfalso;omega)))|(apply D5)|(apply J2))
      all_goals (skip)
      exact M9 _ (by (exact .inl rfl)) rfl (fun _ hw=>hw) ⟨sb,X1,a1,k1,ad,cd,al,cl,hX1,rfl,rfl⟩
    · rw[if_neg h1]
      refine J3 Tryz.func183 rfl rfl rfl rfl rfl ?_
      repeat' (first|(apply F3;first|(apply C8;refine A8 ?_)|(apply C9;refine D8 rfl rfl ?_)|(apply E5;refine F5 rfl rfl rfl ?_;refine F7 rfl ?_)|(apply F4;refine F8 rfl rfl ?_;refine G6 rfl ?_)|(apply D6;refine D9 rfl rfl ?_)|(apply G7;refine G8 (E8 rfl rfl) rfl ?_)|(apply K8;refine M8 (H8 rfl rfl) rfl ?_)|(apply H6;refine c_call rfl rfl rfl (cE _) rfl rfl ?_;rintro _ _ ⟨sb1,X1,a0,k0,a1,k1,a2,k2,hX1,rfl,rfl⟩))|(apply D7)|(apply F6)|(apply A7)|(refine G5 rfl ?_;apply E9<;>intro hq<;>(try (exfalso;omega)))|(apply D5)|(apply J2))
      all_goals (skip)
      exact M9 _ (by (exact .inl rfl)) rfl (fun _ hw=>hw) ⟨sb1,X1,a0,k0,a1,k1,a2,k2,hX1,rfl,rfl⟩
end
end Go.Proofs.YtmmnimagbnlcmaaGreatDoor
section
namespace Go.Proofs.YtmmnimagbnlcmaaGreatDoor
open Go Go.RowKit Go.Fw Go.Sx
set_option maxRecDepth 100000
set_option maxHeartbeats 1000000
abbrev wireV (m c o:Int) (d:ByteArray) (ov:Bool):Value:= .agg #[.int .i64 m,.int .i64 c,.int .i64 o,.string d,.bool ov]
attribute [local irreducible] SW SL SQ AtQ SV SC BB LD PK Yields SO SOT SOA SY
end Go.Proofs.YtmmnimagbnlcmaaGreatDoor
namespace Go.Proofs.YtmmnimagbnlcmaaGreatDoor
open Go Go.RowKit Go.Fw Go.Sx
set_option maxRecDepth 100000
set_option maxHeartbeats 1000000
def r0:Rc:=⟨0,0,0,false,[],[],[]⟩
abbrev wireR (q:Rc):Value:=wireV q.mode q.cmd q.opt (strOfNums q.buf) q.over
attribute [local irreducible] SW SL SQ AtQ SV SC BB LD PK Yields SO SOT SOA SY
end Go.Proofs.YtmmnimagbnlcmaaGreatDoor
end
section
namespace Go.Fw
open Go Go.RowKit Go.Sx
theorem BQ7 (r:Rc) (t:Tk):(r.tok t).data.length≤r.data.length∧(r.tok t).out.length≤r.out.length+2:=by
  unfold Rc.tok Rc.flush
  split
  · exact⟨Nat.le_refl _,by simp⟩
  · exact⟨Nat.zero_le _,by simp⟩
theorem Bx0 {r:Rc} (hm:0≤r.mode∧r.mode≤5) (hb:r.buf.length≤4096) (c:Int):(0≤(r.take c).mode∧(r.take c).mode≤5)∧(r.take c).buf.length≤4096∧(r.take c).data.length≤r.data.length+1∧(r.take c).out.length≤r.out.length+2:=by
  have sub:∀q:Rc,q.buf.length≤4096→(q.sub c).mode=q.mode∧(q.sub c).buf.length≤4096∧(q.sub c).data=q.data∧(q.sub c).out=q.out:=fun q hq=>by
    unfold Rc.sub
    split
    · exact⟨rfl,Nat.zero_le _,rfl,rfl⟩
    · split
      · exact⟨rfl,hq,rfl,rfl⟩
      · refine⟨rfl,?_,rfl,rfl⟩
        dsimp only
        rw[List.length_append,List.length_singleton];omega
  have tk:=BQ7 r
  have tb:∀t,(r.tok t).buf=r.buf:=fun t=>(A66 r t).2.2.2.2
  rcases (by omega:r.mode=0∨r.mode=1∨r.mode=2∨r.mode=3∨r.mode=4∨r.mode=5) with h|h|h|h|h|h
  · rw[Rc.t0 h]
    split
    · exact⟨⟨by dsimp only;omega,by dsimp only;omega⟩,hb,Nat.le_succ _,by dsimp only;omega⟩
    · exact⟨hm,hb,by dsimp only;rw[List.length_append,List.length_singleton];exact Nat.le_refl _,by dsimp only;omega⟩
  · rw[Rc.t1 h]
    unfold Rc.com
    split
    · exact⟨⟨by dsimp only;omega,by dsimp only;omega⟩,hb,by dsimp only;rw[List.length_append,List.length_singleton];exact Nat.le_refl _,by dsimp only;omega⟩
    split
    · exact⟨⟨by dsimp only;omega,by dsimp only;omega⟩,hb,Nat.le_succ _,by dsimp only;omega⟩
    split
    · exact⟨⟨by dsimp only;omega,by dsimp only;omega⟩,hb,Nat.le_succ _,by dsimp only;omega⟩
    split
    · exact⟨⟨by dsimp only;omega,by dsimp only;omega⟩,by dsimp only;rw[tb];exact hb,by have:=tk (2,c,0,noB);dsimp only;omega,(tk (2,c,0,noB)).2⟩
    · exact⟨⟨by dsimp only;omega,by dsimp only;omega⟩,by dsimp only;rw[tb];exact hb,by have:=tk (5,c,0,noB);dsimp only;omega,(tk (5,c,0,noB)).2⟩
  · rw[Rc.t2 h]
    exact⟨⟨by dsimp only;omega,by dsimp only;omega⟩,by dsimp only;rw[tb];exact hb,by have:=tk (3,r.cmd,c,noB);dsimp only;omega,(tk (3,r.cmd,c,noB)).2⟩
  · rw[Rc.t3 h]
    exact⟨⟨by dsimp only;omega,by dsimp only;omega⟩,hb,Nat.le_succ _,by dsimp only;omega⟩
  · rw[Rc.t4 h]
    split
    · exact⟨⟨by dsimp only;omega,by dsimp only;omega⟩,hb,Nat.le_succ _,by dsimp only;omega⟩
    · obtain⟨h1,h2,h3,h4⟩:=sub r hb
      exact⟨by rw[h1];exact hm,h2,by rw[h3];omega,by rw[h4];omega⟩
  · rw[Rc.t5 h]
    split
    · obtain⟨h1,h2,h3,h4⟩:=sub {r with mode:=4} hb
      exact⟨by rw[h1];exact⟨by dsimp only;omega,by dsimp only;omega⟩,h2,by rw[h3];exact Nat.le_succ _,by rw[h4];dsimp only;omega⟩
    · unfold Rc.fin
      have:=tk (r.finT c)
      exact⟨⟨by dsimp only;omega,by dsimp only;omega⟩,Nat.zero_le _,by dsimp only;omega,this.2⟩
theorem Bz4 {r:Rc} (hm:0≤r.mode∧r.mode≤5) (hb:r.buf.length≤4096) (l:List Int):(0≤(l.foldl Rc.take r).mode∧(l.foldl Rc.take r).mode≤5)∧(l.foldl Rc.take r).buf.length≤4096∧(l.foldl Rc.take r).data.length≤r.data.length+l.length∧(l.foldl Rc.take r).out.length≤r.out.length+2 * l.length:=by
  induction l generalizing r with
  | nil=>exact⟨hm,hb,Nat.le_refl _,Nat.le_refl _⟩
  | cons c l ih=>
    obtain⟨h1,h2,h3,h4⟩:=Bx0 hm hb c
    obtain⟨i1,i2,i3,i4⟩:=ih h1 h2
    rw[List.foldl_cons,List.length_cons]
    exact⟨i1,i2,by omega,by omega⟩
/-- Is a wire right? -/
def AE7 (m c o:Int) (z:Nat) (v:Int):Prop:=(0≤m∧m≤5)∧((m=2∧251≤c∧c≤254)∨(m≠2∧c=0))∧(((m=4∨m=5)∧0≤o∧o≤255∧z≤4096∧(v=0∨z=0))∨(m≠4∧m≠5∧o=0∧z=0∧v=0))
instance (m c o:Int) (z:Nat) (v:Int):Decidable (AE7 m c o z v):=by unfold AE7;exact inferInstance
def wireE (m c o:Int) (z:Nat) (v:Int):Int:=if AE7 m c o z v then 0 else 4
def ovI (ov:Bool):Int:=if ov=true then 1 else 0
theorem Ai2 {m c o:Int} {z:Nat} {v:Int} (h:AE7 m c o z v):wireE m c o z v=0:=if_pos h
theorem AZ6 {m c o:Int} {z:Nat} {v:Int} (h:¬AE7 m c o z v):wireE m c o z v=4:=if_neg h
end Go.Fw
namespace Go.Proofs.YtmmnimagbnlcmaaGreatDoor
open Go Go.RowKit Go.Fw Go.Sx
set_option maxRecDepth 100000
set_option maxHeartbeats 1000000
attribute [local irreducible] SW SL SQ AtQ SV SC BB LD PK Yields SO SOT SOA SY SP SPT SPA
theorem AV2 (G:Ctx) (H:List Ent) (m c o:Int) (d:ByteArray) (ov:Bool):SV Tryz.prog G 70 [wireV m c o d ov] H (.int .i64 (wireE m c o d.size (ovI ov))):=by
  have h0:(⟨#[]⟩:ByteArray).size=0:=rfl
  have hE:ByteArray.empty=(⟨#[]⟩:ByteArray):=rfl
  by_cases hd0:d=⟨#[]⟩
  · subst hd0
    cases ov
    · show SV _ _ _ _ _ (.int .i64 (wireE m c o _ 0))
      refine M5 Tryz.func70 rfl rfl rfl rfl rfl ?_
      repeat' (first|(apply F3;first|(apply C8;refine A8 ?_)|(apply C9;refine D8 rfl rfl ?_)|(apply E5;refine F5 rfl rfl rfl ?_;first|(refine AH9 ?_)|(refine F7 rfl ?_))|(apply F4;refine F8 rfl rfl ?_;refine G6 rfl ?_)|(apply D6;refine D9 rfl rfl ?_)|(apply I6;refine I9 rfl rfl ?_;first|(apply Q9;refine Q8 rfl ?_)|(apply O1;refine O3 rfl ?_))|(apply G7;refine G8 (E8 rfl rfl) rfl ?_)|(apply Y0;refine Z8 (Z7 rfl rfl rfl) rfl ?_)|(apply J5;refine s_call (Q3 rfl rfl) rfl ?_)|(apply K9;refine O5 rfl rfl rfl rfl rfl rfl (fun _=>?_))|(apply I1;first|(refine J9 rfl rfl rfl rfl ?_;first|(apply I7)|(apply I5)|(apply X9)|(apply E9<;>intro hq<;>(try (exfalso;omega)))|(apply O8<;>intro hq<;>(try (exfalso;omega))))|refine o5 rfl rfl rfl rfl rfl rfl ?_))|(apply D7)|(apply G9)|(apply H7)|(apply A7)|(refine G5 rfl ?_;first|(apply I7)|(apply I5)|(apply E9<;>intro hq<;>(try (exfalso;omega))))|(apply D5)|(apply J4))
      all_goals (try simp only[decide_eq_true_eq,decide_eq_false_iff_not,not_true_eq_false,not_false_eq_true,and_true,and_false,true_and,false_and,hE,Bool.true_eq_false,Bool.false_eq_true] at *)
      all_goals (first|(refine M3 (by (exact .inr rfl)) rfl N7 ?_;rw[Ai2 (by unfold AE7;omega)]<;>rfl)|(refine M3 (by (exact .inr rfl)) rfl N7 ?_;rw[AZ6 (by unfold AE7;omega)]<;>rfl))
    · show SV _ _ _ _ _ (.int .i64 (wireE m c o _ 1))
      refine M5 Tryz.func70 rfl rfl rfl rfl rfl ?_
      repeat' (first|(apply F3;first|(apply C8;refine A8 ?_)|(apply C9;refine D8 rfl rfl ?_)|(apply E5;refine F5 rfl rfl rfl ?_;first|(refine AH9 ?_)|(refine F7 rfl ?_))|(apply F4;refine F8 rfl rfl ?_;refine G6 rfl ?_)|(apply D6;refine D9 rfl rfl ?_)|(apply I6;refine I9 rfl rfl ?_;first|(apply Q9;refine Q8 rfl ?_)|(apply O1;refine O3 rfl ?_))|(apply G7;refine G8 (E8 rfl rfl) rfl ?_)|(apply Y0;refine Z8 (Z7 rfl rfl rfl) rfl ?_)|(apply J5;refine s_call (Q3 rfl rfl) rfl ?_)|(apply K9;refine O5 rfl rfl rfl rfl rfl rfl (fun _=>?_))|(apply I1;first|(refine J9 rfl rfl rfl rfl ?_;first|(apply I7)|(apply I5)|(apply X9)|(apply E9<;>intro hq<;>(try (exfalso;omega)))|(apply O8<;>intro hq<;>(try (exfalso;omega))))|refine o5 rfl rfl rfl rfl rfl rfl ?_))|(apply D7)|(apply G9)|(apply H7)|(apply A7)|(refine G5 rfl ?_;first|(apply I7)|(apply I5)|(apply E9<;>intro hq<;>(try (exfalso;omega))))|(apply D5)|(apply J4))
      all_goals (try simp only[decide_eq_true_eq,decide_eq_false_iff_not,not_true_eq_false,not_false_eq_true,and_true,and_false,true_and,false_and,hE,Bool.true_eq_false,Bool.false_eq_true] at *)
      all_goals (first|(refine M3 (by (exact .inr rfl)) rfl N7 ?_;rw[Ai2 (by unfold AE7;omega)]<;>rfl)|(refine M3 (by (exact .inr rfl)) rfl N7 ?_;rw[AZ6 (by unfold AE7;omega)]<;>rfl))
  · have hz:0<d.size:=Nat.pos_of_ne_zero fun e=>hd0 (A77 e)
    cases ov
    · show SV _ _ _ _ _ (.int .i64 (wireE m c o _ 0))
      refine M5 Tryz.func70 rfl rfl rfl rfl rfl ?_
      repeat' (first|(apply F3;first|(apply C8;refine A8 ?_)|(apply C9;refine D8 rfl rfl ?_)|(apply E5;refine F5 rfl rfl rfl ?_;first|(refine AH9 ?_)|(refine F7 rfl ?_))|(apply F4;refine F8 rfl rfl ?_;refine G6 rfl ?_)|(apply D6;refine D9 rfl rfl ?_)|(apply I6;refine I9 rfl rfl ?_;first|(apply Q9;refine Q8 rfl ?_)|(apply O1;refine O3 rfl ?_))|(apply G7;refine G8 (E8 rfl rfl) rfl ?_)|(apply Y0;refine Z8 (Z7 rfl rfl rfl) rfl ?_)|(apply J5;refine s_call (Q3 rfl rfl) rfl ?_)|(apply K9;refine O5 rfl rfl rfl rfl rfl rfl (fun _=>?_))|(apply I1;first|(refine J9 rfl rfl rfl rfl ?_;first|(apply I7)|(apply I5)|(apply X9)|(apply E9<;>intro hq<;>(try (exfalso;omega)))|(apply O8<;>intro hq<;>(try (exfalso;omega))))|refine o5 rfl rfl rfl rfl rfl rfl ?_))|(apply D7)|(apply G9)|(apply H7)|(apply A7)|(refine G5 rfl ?_;first|(apply I7)|(apply I5)|(apply E9<;>intro hq<;>(try (exfalso;omega))))|(apply D5)|(apply J4))
      all_goals (try simp only[decide_eq_true_eq,decide_eq_false_iff_not,not_true_eq_false,not_false_eq_true,and_true,and_false,true_and,false_and,hE,Bool.true_eq_false,Bool.false_eq_true,hd0] at *)
      all_goals (first|(refine M3 (by (exact .inr rfl)) rfl N7 ?_;rw[Ai2 (by unfold AE7;omega)]<;>rfl)|(refine M3 (by (exact .inr rfl)) rfl N7 ?_;rw[AZ6 (by unfold AE7;omega)]<;>rfl))
    · show SV _ _ _ _ _ (.int .i64 (wireE m c o _ 1))
      refine M5 Tryz.func70 rfl rfl rfl rfl rfl ?_
      repeat' (first|(apply F3;first|(apply C8;refine A8 ?_)|(apply C9;refine D8 rfl rfl ?_)|(apply E5;refine F5 rfl rfl rfl ?_;first|(refine AH9 ?_)|(refine F7 rfl ?_))|(apply F4;refine F8 rfl rfl ?_;refine G6 rfl ?_)|(apply D6;refine D9 rfl rfl ?_)|(apply I6;refine I9 rfl rfl ?_;first|(apply Q9;refine Q8 rfl ?_)|(apply O1;refine O3 rfl ?_))|(apply G7;refine G8 (E8 rfl rfl) rfl ?_)|(apply Y0;refine Z8 (Z7 rfl rfl rfl) rfl ?_)|(apply J5;refine s_call (Q3 rfl rfl) rfl ?_)|(apply K9;refine O5 rfl rfl rfl rfl rfl rfl (fun _=>?_))|(apply I1;first|(refine J9 rfl rfl rfl rfl ?_;first|(apply I7)|(apply I5)|(apply X9)|(apply E9<;>intro hq<;>(try (exfalso;omega)))|(apply O8<;>intro hq<;>(try (exfalso;omega))))|refine o5 rfl rfl rfl rfl rfl rfl ?_))|(apply D7)|(apply G9)|(apply H7)|(apply A7)|(refine G5 rfl ?_;first|(apply I7)|(apply E9<;>intro hq<;>(try (exfalso;omega)))|(apply AF0<;>intro hq))|(apply D5)|(apply J4))
      all_goals (try simp only[decide_eq_true_eq,decide_eq_false_iff_not,not_true_eq_false,not_false_eq_true,and_true,and_false,true_and,false_and,hE,Bool.true_eq_false,Bool.false_eq_true,hd0] at *)
      all_goals (refine M3 (by (exact .inr rfl)) rfl N7 ?_;rw[AZ6 (by unfold AE7;omega)]<;>rfl)
end Go.Proofs.YtmmnimagbnlcmaaGreatDoor
namespace Go.Proofs.YtmmnimagbnlcmaaGreatDoor
open Go Go.RowKit Go.Fw Go.Sx
set_option maxRecDepth 100000
set_option maxHeartbeats 1000000
def feedR (m c o:Int) (d:ByteArray) (ov:Bool) (s:ByteArray):Rc:=((nums s).foldl Rc.take ⟨m,c,o,ov,nums d,[],[]⟩).flush
attribute [local irreducible] SW SL SQ AtQ SV SC BB LD PK Yields SO SOT SOA SY SP SPT SPA
theorem BD9 (G:Ctx) (H:List Ent) (m c o:Int) (d:ByteArray) (ov:Bool) (s:ByteArray) (he:wireE m c o d.size (ovI ov)=0) (hs:s.size≤2000000):SC Tryz.prog G 129 [wireV m c o d ov,.string s] H (fun v H'=>∃a' c',v= .tuple #[wireR (feedR m c o d ov s),.slice a' (feedR m c o d ov s).out.length c',.int .i64 0]∧H'= .own 225 4 a' (feedR m c o d ov s).out.length c' (toks (feedR m c o d ov s).out)::H):=by
  have cC:=fun H=>AV2 G H m c o d ov
  rw[he] at cC
  have hok:AE7 m c o d.size (ovI ov):=by
    unfold wireE at he
    split at he
    · assumption
    · cases he
  have hdz:d.size≤4096:=by unfold AE7 at hok;omega
  have hm05:0≤m∧m≤5:=by unfold AE7 at hok;omega
  have hro:=fun i=>Bz4 (r:=⟨m,c,o,ov,nums d,[],[]⟩) hm05 (by dsimp only;rw[nums_length];exact hdz) ((nums s).take i)
  have htake:(nums s).take s.size=nums s:=by rw[←nums_length];exact List.take_length
  have hst:∀i,i<s.size→((nums s).take (i+1)).foldl Rc.take ⟨m,c,o,ov,nums d,[],[]⟩=(((nums s).take i).foldl Rc.take ⟨m,c,o,ov,nums d,[],[]⟩).take ((nums s).getD i 0):=fun i h=>by
    rw[List.take_succ_eq_append_getElem (by rw[nums_length];exact h),List.foldl_append,List.getD_eq_getElem?_getD,List.getElem?_eq_getElem (by rw[nums_length];exact h)]
    rfl
  have hz:((nums s).take 0).foldl Rc.take ⟨m,c,o,ov,nums d,[],[]⟩=⟨m,c,o,ov,nums d,[],[]⟩:=rfl
  unfold feedR
  rw[←htake]
  obtain⟨T,hT⟩:∃T:Nat→Rc,∀i,((nums s).take i).foldl Rc.take ⟨m,c,o,ov,nums d,[],[]⟩=T i:=⟨_,fun _=>rfl⟩
  simp only[hT] at *
  have Hro:=Lib.hid hro
  have Hst:=Lib.hid hst
  clear hro hst hT htake hok he
  refine J3 Tryz.func129 rfl rfl rfl rfl rfl ?_
  repeat' (first|(apply F3;first|(apply C8;refine A8 ?_)|(apply C9;refine D8 rfl rfl ?_)|(apply E5;refine F5 rfl rfl rfl ?_;refine F7 rfl ?_)|(apply F4;refine F8 rfl rfl ?_;first|refine G6 rfl ?_ |refine K5 rfl ?_)|(apply D6;refine D9 rfl rfl ?_)|(apply G7;refine G8 (E8 rfl rfl) rfl ?_)|(apply P5;refine R7 (O6 rfl rfl rfl) rfl ?_)|(apply p8;refine Bw4 rfl rfl rfl (by omega) rfl rfl (fun _ _ _ _=>?_))|(apply H6;refine F9 rfl rfl rfl (cC _) rfl rfl ?_)|(apply J5;refine s_call (Q3 rfl rfl) rfl ?_)|(apply K9;refine O5 rfl rfl rfl rfl rfl rfl (fun _=>?_))|(apply L6;refine O0 rfl rfl rfl rfl (fun _=>?_)))|(apply D7)|(apply G9)|(apply F6)|(apply A7)|(refine G5 rfl ?_;apply I5)|(apply D5))
  all_goals (skip)
  rename_i b2 b4 X0 a0 k0 hX0 b
  refine R9 (α:=Nat×ByteArray×Ent×(Option Addr×Nat)×(Option Addr×Nat)×(Option Addr×Nat)) (fun g=>[(1,.string s),(4,.pointer (some ⟨b4,0,none⟩)),(8,.pointer (some ⟨b,0,none⟩)),(23,.int .i64 s.size),(24,.int .i64 g.1)])
    (fun g=>rcH b (T g.1) g.2.1 g.2.2.1 g.2.2.2.1.1 g.2.2.2.1.2 g.2.2.2.2.1.1 g.2.2.2.2.1.2 g.2.2.2.2.2.1 g.2.2.2.2.2.2 (.blk b4 24 [.int .i64 0,.int .i64 0,.int .i64 0,.string ⟨#[]⟩,.bool false]::H))
    (fun g=>g.1≤s.size∧BufE 5 g.2.2.1 g.2.2.2.1.1 (T g.1).buf.length g.2.2.2.1.2 (T g.1).buf) (fun g=>s.size-g.1) (0,d,X0,(a0,k0),(none,0),(none,0)) ⟨Nat.zero_le _,by dsimp only;rw[hz,nums_length];exact hX0⟩ (by repeat (first|exact Le.nil _|refine Le.cons (by (rfl)) ?_)) (by dsimp only;rw[hz];unfold rcH rcC;dsimp only;rw[nums_length];exact(fun _ hw=>((hw.nilrow _ _).nilrow _ _).subs (by repeat (first|refine Subs.cons (by repeat constructor) ?_ |exact Subs.sub N7)))) ?_
  rintro ⟨i,sb,X,⟨ab,cb⟩,⟨ad,cd⟩,⟨al,cl⟩⟩ ⟨hi,hX⟩
  dsimp only at hi hX ⊢
  obtain⟨h1,h2,h3,h4⟩:=Hro.out i
  rw[List.length_take,nums_length] at h3 h4
  simp only[List.length_nil,Nat.zero_add] at h3 h4
  by_cases hlt:(i:Int)<s.size
  · have hst:=Hst.out i (by omega)
    have hb:0≤(nums s).getD i 0∧(nums s).getD i 0≤255:=by
      have hx:i<(nums s).length:=by rw[nums_length];omega
      rw[List.getD_eq_getElem?_getD,List.getElem?_eq_getElem hx]
      exact AD5 s _ (List.getElem_mem hx)
    have hx0:(nums s).getD (i:Int).toNat 0=(nums s).getD i 0:=rfl
    generalize (nums s).getD i 0=x at *
    have c1:=fun H=>BZ8 G H b (T i) x hb sb X ab cb ad cd al cl hX h1 h2 (by omega) (by omega)
    rw[←hst] at c1
    clear cC hz hst
    repeat' (first|(apply F3;first|(apply C8;refine A8 ?_)|(apply C9;refine D8 rfl rfl ?_)|(apply E5;refine F5 rfl rfl rfl ?_;first|(apply M0;refine L9 ⟨by omega,by omega⟩ ?_)|refine F7 rfl ?_)|(apply D6;refine D9 rfl rfl ?_)|(apply U8;refine W9 (Z5 hx0 rfl rfl rfl (by omega) (by omega)) rfl ?_)|(apply H6;refine c_call rfl rfl rfl (c1 _) rfl rfl ?_;rintro _ _ ⟨sb1,X1,a1,k1,a2,k2,a3,k3,hX1,rfl,rfl⟩))|(apply D7)|(apply G9)|(apply F6)|(apply A7)|(refine G5 rfl ?_;apply E9<;>intro hq<;>(try (exfalso;omega)))|(apply D5)|(apply J2))
    exact J6 (i+1,sb1,X1,(a1,k1),(a2,k2),(a3,k3)) ⟨⟨by dsimp only;omega,hX1⟩,by dsimp only;omega⟩ (by repeat (first|exact Le.nil _|refine Le.cons (by (rfl)) ?_)) (fun _ hw=>hw)
  · obtain rfl:s.size=i:=by omega
    have c1:=fun H=>Al5 G H b (T s.size) sb X ab cb ad cd al cl (by omega)
    have hqb:(T s.size).flush.buf=(T s.size).buf:=by unfold Rc.flush;split<;>rfl
    rw[←hqb] at hX
    generalize (T s.size).flush=q at *
    haveI:=fun H=>hX.rd (G:=G) H
    repeat' (first|(apply F3;first|(apply C8;refine A8 ?_)|(apply C9;refine D8 rfl rfl ?_)|(apply E5;refine F5 rfl rfl rfl ?_;refine F7 rfl ?_)|(apply F4;refine F8 rfl rfl ?_;refine G6 rfl ?_)|(apply G7;refine G8 (E8 rfl rfl) rfl ?_)|(apply p8;refine x9 (AO5 (xs:=q.buf) rfl rfl rfl rfl) rfl ?_)|(apply K8;refine M8 (H8 rfl rfl) rfl ?_)|(apply H6;refine c_call rfl rfl rfl (c1 _) rfl rfl ?_;rintro _ _ ⟨a1,k1,a2,k2,rfl,rfl⟩)|(apply H9;refine U3 rfl rfl rfl rfl rfl rfl rfl ?_))|(apply D7)|(apply N8)|((fail_if_success (refine K3 (id:=12) ?_));apply A7)|(refine G5 rfl ?_;apply E9<;>intro hq<;>(try (exfalso;omega)))|(apply D5)|(apply J7)|(apply J8))
    all_goals (skip)
    refine V3 (.blk b 268 [.int .i64 q.mode,.int .i64 q.cmd,.int .i64 q.opt,.string (strOfNums q.buf),.bool q.over,.slice ab q.buf.length cb,.slice a1 q.data.length k1,.slice a2 q.out.length k2]::H) I8 ?_
    repeat' (first|(apply F3;first|(apply C8;refine A8 ?_)|(apply H9;refine M6 rfl rfl rfl rfl rfl rfl rfl rfl ?_))|(apply U4;refine R5 (k:=0) I8 ?_)|(apply V6;first|(refine O9 rfl ?_)|(refine P8 rfl rfl rfl rfl (by kernel_rfl) (by decide+kernel) (by decide+kernel) ?_;first|(apply U5;refine I4 (V4 rfl rfl) ?_)|(apply U9;refine U6 rfl ?_;first|refine G6 rfl ?_ |refine L8 rfl rfl ?_)|(apply Z0;refine I4 (X7 rfl rfl) ?_)|(apply Q0;refine I4 (E8 rfl rfl) ?_)|(apply Y7;refine I4 (H8 rfl rfl) ?_))|(refine P9 rfl ?_)|(refine R4 (by decide+kernel) ?_)|(refine S9 (by kernel_rfl) ?_))|(apply X4;first|(refine T9 rfl)|(refine U7 (by decide+kernel) ?_)|(refine U0 rfl ?_ ?_))|(apply H7)|(apply D5))
    exact d9 (.own 225 4 a2 q.out.length k2 (toks q.out)::H) (by (exact .inr rfl)) rfl rfl rfl I8 ⟨_,_,rfl,rfl⟩
end Go.Proofs.YtmmnimagbnlcmaaGreatDoor
namespace Go.Proofs.YtmmnimagbnlcmaaGreatDoor
open Go Go.RowKit Go.Fw Go.Sx
end Go.Proofs.YtmmnimagbnlcmaaGreatDoor
end
