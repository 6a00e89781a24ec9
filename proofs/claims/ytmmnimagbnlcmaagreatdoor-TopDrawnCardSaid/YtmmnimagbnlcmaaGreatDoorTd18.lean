/- Texts of this claim, merged: Drw11 Drw12 Drw20 Drw21 Drw22 DrwS Drw23. -/
import Derived.Test.YtmmnimagbnlcmaaGreatDoorTd17
import Derived.Test.YtmmnimagbnlcmaaGreatDoorRows
import Derived.WalkKit
import Derived.WalkSpells
import Derived.WalkLawsBesides
import Derived.Handy
import Derived.Lib.Hide
import Derived.Laws.BitsAllLaws
import Derived.Deep.MidRow
import Derived.Deep.WholeRow
import Derived.BigQuiet
import Derived.Deep.QuietTactic
import Derived.Laws.CopyOwn
import Derived.StillTailTactics
import Derived.RegionTactic
import Derived.ChangeAlike
import Derived.Laws.AppendOwnNone
import Derived.Laws.MakeOwn
import Derived.Laws.IdiomStrings
import Derived.OrdersHeld
import Derived.Lib.SliceRun
import Derived.ChangeKeysEq
import Derived.Laws.CopyRow
import Derived.Lib.AppendStr
import Derived.ArgAppend
import Derived.Laws.RangeAny
import Derived.Maps.RangeRun
import Derived.Lib.Replace
import Derived.Lib.Join
import Derived.Lib.IndexLaws
import Derived.Lib.IndexMore
import Derived.Lib.SplitLaws
import Derived.Shelf.Strings.Builder1
import Derived.Shelf.Strings.Builder2
import Derived.Shelf.Strings.OnBuilder
import Derived.Shelf.Strings.Trim
import Derived.Shelf.Small.Utf8
import Derived.Shelf.Small.Strs
import Derived.Shelf.Strings.BuilderF
import Derived.Shelf.Strconv.Itoa0
import Derived.Shelf.Strconv.Itoa1
import Derived.Shelf.LaysM
import Derived.Shelf.Strconv.Itoa2
import Derived.Shelf.Strconv.Itoa3
import Derived.Shelf.Strings.Search1
import Derived.Shelf.Strings.Search2
import Derived.Shelf.Strings.Search3
import Derived.Shelf.Strings.Count
import Derived.Shelf.Strings.Shaped
import Derived.Shelf.Strings.LastIndex
import Derived.Shelf.Strings.Prefix
import Derived.Shelf.Strings.Split
import Derived.Shelf.Strings.Replace
import Derived.Shelf.Strings.SplitShaped
import Derived.Shelf.Strings.Runes
import Derived.Shelf.Strings.AsciiSet
import Derived.Shelf.Bits.Mul64
import Derived.Shelf.Strings.Repeat
import Derived.Shelf.Unicode.DecodeSlow
import Derived.Shelf.Unicode.DecodeAny
import Derived.Shelf.Unicode.ValidAny
import Derived.Test.YtmmnimagbnlcmaaGreatDoorProg
import Derived.Lib.Bytealg
import Derived.Lib.ItoaNum
import Derived.Lib.AppendIntMem
import Derived.Lib.Repeat
import Derived.Lib.DecodeN
import Derived.Lib.ValidU
import Derived.Lib.MapLaws
namespace Go.Proofs.YtmmnimagbnlcmaaGreatDoor
open Go Go.RowKit Go.Fw Go.Sx
set_option maxRecDepth 100000
section
set_option maxHeartbeats 4000000
attribute [local irreducible] SW SL SQ AtQ SV SC BB LD PK Yields SO SOT SOA SY SP SPT SPA
/-- What a screen's cells hold of its picture. -/
structure Pic (S:List Value) (w h:Nat) (ga:Option Addr) (gn gc:Nat) (row col:Int) (p:Tri):Prop where
  len:S.length=33
  one:S.all (·.oneCell')=true
  g:take? (S.drop 0) 3=some [.int .i64 w,.int .i64 h,.slice ga gn gc]
  row:S[3]? =some (.int .i64 row)
  col:S[4]? =some (.int .i64 col)
  pen:take? (S.drop 8) 3=some [.int .i64 p.1,.int .i64 p.2.1,.int .i64 p.2.2]
/-- The right-hand screen is none. -/
theorem BF1 (G:Ctx) (H:List Ent) (S T:List Value) (e:Int) (he:e≠0) (hS:S.length=33) (hT:T.length=33) (e1:Int) (w1 h1 w2 h2:Int) (ga1 ga2:Option Addr) (gn1 gc1 gn2 gc2:Nat)
    (hg:take? (S.drop 0) 3=some [.int .i64 w1,.int .i64 h1,.slice ga1 gn1 gc1]) (hg2:take? (T.drop 0) 3=some [.int .i64 w2,.int .i64 h2,.slice ga2 gn2 gc2])
    (cS:∀H':List Ent,(∀w,Holds G H' w→Holds G H w)→SV Tryz.prog G 36 [.agg S.toArray] H' (.int .i64 e1))
    (cT:e1=0→∀H':List Ent,(∀w,Holds G H' w→Holds G H w)→SV Tryz.prog G 36 [.agg T.toArray] H' (.int .i64 e)) (hh:e1=0∨e1≠0):
    SV Tryz.prog G 15 [.agg S.toArray,.agg T.toArray] H (.tuple #[.slice none 0 0,.int .i64 4]):=by
  have hSb:Nat.beq S.length 33=true:=by rw[hS];rfl
  have hTb:Nat.beq T.length 33=true:=by rw[hT];rfl
  rcases hh with rfl|hh
  · have cT:=cT rfl
    refine P7 Tryz.func15 rfl rfl rfl rfl rfl ?_
    repeat' (first|(apply F3;first|(apply C8;refine A8 ?_)|(apply C9;refine D8 rfl rfl ?_)|(apply E5;refine F5 rfl rfl rfl ?_;refine F7 rfl ?_)|(apply F4;refine F8 rfl rfl ?_;first|refine K5 hSb ?_ |refine K5 hTb ?_)|(apply D6;refine D9 rfl rfl ?_)|(apply I6;refine I9 rfl rfl ?_;apply O1;refine O3 rfl ?_)|(apply H6;first|refine F9 rfl rfl rfl (cS _ I8) rfl rfl ?_ |refine F9 rfl rfl rfl (cT _ I8) rfl rfl ?_)|(apply H9;refine M6 rfl rfl rfl rfl rfl rfl rfl rfl ?_)|(apply K9;refine O5 rfl rfl rfl rfl rfl rfl (fun _=>?_))|(apply L6;refine O0 rfl rfl rfl rfl (fun _=>?_))|(apply I1;refine J9 rfl rfl rfl rfl ?_;apply I7))|(apply U4;refine R5 (k:=0) I8 ?_)|(apply V6;first|(refine O9 rfl ?_)|(refine P8 rfl rfl rfl rfl (by kernel_rfl) (by decide+kernel) (by decide+kernel) ?_;first|(apply U9;refine U6 rfl ?_;first|refine L8 hg rfl ?_ |refine L8 hg2 rfl ?_)|(apply Q0;refine I4 (E8 rfl rfl) ?_))|(refine P9 rfl ?_)|(refine R4 (by decide+kernel) ?_)|(refine S9 (by kernel_rfl) ?_))|(apply X4;first|(refine T9 rfl)|(refine U7 (by decide+kernel) ?_)|(refine U0 rfl ?_ ?_))|(apply D7)|(apply H7)|(apply F6)|(apply A7)|(refine G5 rfl ?_;apply X6<;>intro hq<;>(try (exfalso;omega)))|(apply D5)|(apply J4)|(apply U1)|(refine K3 (id:=1) ?_;refine V3 _ (fun _ hw=>hw) ?_))
    all_goals (skip)
    all_goals
      refine M3 (by (exact .inr rfl)) rfl N7 ?_
      rfl
  · clear cT
    refine P7 Tryz.func15 rfl rfl rfl rfl rfl ?_
    repeat' (first|(apply F3;first|(apply C8;refine A8 ?_)|(apply C9;refine D8 rfl rfl ?_)|(apply E5;refine F5 rfl rfl rfl ?_;refine F7 rfl ?_)|(apply F4;refine F8 rfl rfl ?_;refine K5 hSb ?_)|(apply D6;refine D9 rfl rfl ?_)|(apply I6;refine I9 rfl rfl ?_;apply Q9;refine Q8 rfl ?_)|(apply H6;refine F9 rfl rfl rfl (cS _ I8) rfl rfl ?_)|(apply H9;refine M6 rfl rfl rfl rfl rfl rfl rfl rfl ?_)|(apply K9;refine O5 rfl rfl rfl rfl rfl rfl (fun _=>?_))|(apply L6;refine O0 rfl rfl rfl rfl (fun _=>?_))|(apply I1;refine J9 rfl rfl rfl rfl ?_;first|(apply X9)|(apply AP0<;>intro hq<;>(try (exfalso;omega)))))|(apply U4;refine R5 (k:=0) I8 ?_)|(apply V6;first|(refine O9 rfl ?_)|(refine P8 rfl rfl rfl rfl (by kernel_rfl) (by decide+kernel) (by decide+kernel) ?_;first|(apply U9;refine U6 rfl ?_;first|refine L8 hg rfl ?_ |refine L8 hg2 rfl ?_)|(apply Q0;refine I4 (E8 rfl rfl) ?_))|(refine P9 rfl ?_)|(refine R4 (by decide+kernel) ?_)|(refine S9 (by kernel_rfl) ?_))|(apply X4;first|(refine T9 rfl)|(refine U7 (by decide+kernel) ?_)|(refine U0 rfl ?_ ?_))|(apply D7)|(apply H7)|(apply F6)|(apply A7)|(refine G5 rfl ?_;apply I7)|(apply D5)|(apply J4)|(apply U1)|(refine K3 (id:=1) ?_;refine V3 _ (fun _ hw=>hw) ?_))
    all_goals (skip)
    all_goals
      refine M3 (by (exact .inr rfl)) rfl N7 ?_
      rfl
end
section
set_option maxHeartbeats 4000000
attribute [local irreducible] SW SL SQ AtQ SV SC BB LD PK Yields SO SOT SOA SY SP SPT SPA
/-- The runes that Draw answers. -/
def drawL (C0 C:List Qd) (w h:Nat) (p0 p:Tri) (r0 c0 r c:Int):List Int:=if C0=C∧r0=r∧c0=c∧p0=p then [] else drawD C0 C w h p0 p r c
theorem B02 (G:Ctx) (H:List Ent) (hT:∀H,AP2 G H) (S T:List Value) (w h:Nat) (C0 C:List Qd) (ga:Option Addr) (gn gc:Nat) (ta:Option Addr) (tn tc:Nat) (r0 c0:Int) (p0:Tri) (r c:Int) (p:Tri) (hS:Pic S w h ga gn gc r0 c0 p0) (hD:Pic T w h ta tn tc r c p) [h1:RdC G H ga (qds C0)] [h2:RdC G H ta (qds C)] (hz:(1≤w∧w≤160)∧(1≤h∧h≤60)) (hl0:C0.length=w * h) (hl1:C.length=w * h) (hgn:gn=C0.length) (hgc:gn≤gc) (htn:tn=C.length) (htc:tn≤tc) (hm:S[11]? =some (.int .i64 12)) (hsh:S[18]? =some (.int .i64 0)) (hp0:S[16]? =some (.int .i64 1)) (hpn:penB p0.1 p0.2.1 p0.2.2=true) (hpn2:penB p.1 p.2.1 p.2.2=true) (hC:∀q∈C,celR q) (hr:0≤r∧r<h) (hc:0≤c∧c<w)
    (cS:∀H':List Ent,(∀w,Holds G H' w→Holds G H w)→SV Tryz.prog G 36 [.agg S.toArray] H' (.int .i64 0))
    (cT:∀H':List Ent,(∀w,Holds G H' w→Holds G H w)→SV Tryz.prog G 36 [.agg T.toArray] H' (.int .i64 0)):
    SC Tryz.prog G 15 [.agg S.toArray,.agg T.toArray] H fun v H'=>∃a c' E,v= .tuple #[.slice a (drawL C0 C w h p0 p r0 c0 r c).length c',.int .i64 0]∧H'=E++H∧RdC G E a (ints (drawL C0 C w h p0 p r0 c0 r c)):=by
  obtain⟨sl,so,sg,srow,scol,spen⟩:=hS
  obtain⟨tl,to',tg,trow,tcol,tpen⟩:=hD
  have hSb:Nat.beq S.length 33=true:=by rw[sl];rfl
  have hTb:Nat.beq T.length 33=true:=by rw[tl];rfl
  have hgm:gn≤9600:=by rw[hgn,hl0];exact Nat.le_trans (Nat.mul_le_mul hz.1.2 hz.2.2) (by decide)
  have htm:tn≤9600:=by rw[htn,hl1];exact Nat.le_trans (Nat.mul_le_mul hz.1.2 hz.2.2) (by decide)
  have cE:=fun (H:List Ent) [RdC G H ga (qds C0)] [RdC G H ta (qds C)]=>Ab6 G H C0 C ga ta gn tn gc tc rfl rfl hgn htn (by omega) (by omega)
  refine J3 Tryz.func15 rfl rfl rfl rfl rfl ?_
  repeat' (first|(apply F3;first|(apply C8;refine A8 ?_)|(apply D6;refine D9 rfl rfl ?_)|(apply K9;refine O5 rfl rfl rfl rfl rfl rfl (fun _=>?_)))|(apply D7)|((fail_if_success (refine K3 (id:=1) ?_));apply A7)|(apply D5))
  rename_i b2 b3
  refine j4 (α:=Nat×Nat) (fun g=>[(2,.pointer (some ⟨b2,0,none⟩)),(3,.pointer (some ⟨b3,0,none⟩)),(6,.pointer (some ⟨g.1,0,none⟩)),(7,.pointer (some ⟨g.2,0,none⟩))])
    (fun g=> .blk g.1 29 [.int .i64 w,.int .i64 h,.slice ga gn gc]:: .blk g.2 29 [.int .i64 w,.int .i64 h,.slice ta tn tc]:: .blk b3 41 T:: .blk b2 41 S::H) (fun _=>True) ?_ ?_
  · repeat' (first|(apply F3;first|(apply C8;refine A8 ?_)|(apply H9;refine M6 rfl rfl rfl rfl rfl rfl rfl rfl ?_)|(apply L6;refine O0 rfl rfl rfl rfl (fun _=>?_)))|(apply U4;refine R5 (k:=0) I8 ?_)|(apply V6;first|(refine O9 rfl ?_)|(refine P8 rfl rfl rfl rfl (by kernel_rfl) (by decide+kernel) (by decide+kernel) ?_;first|(apply U9;refine U6 rfl ?_;first|refine L8 sg rfl ?_ |refine L8 tg rfl ?_)|(apply Q0;refine I4 (E8 rfl rfl) ?_))|(refine P9 rfl ?_)|(refine R4 (by decide+kernel) ?_)|(refine S9 (by kernel_rfl) ?_))|(apply X4;first|(refine T9 rfl)|(refine U7 (by decide+kernel) ?_)|(refine U0 rfl ?_ ?_))|(refine K3 (id:=1) ?_;refine V3 _ (fun _ hw=>hw) ?_))
    all_goals
      rename_i b1 b0
      first
        | (refine J6 (b1,b0) trivial ?_ ?_
           focus (repeat (first|exact Le.nil _|refine Le.cons rfl ?_))
           exact I8)
        | (refine J6 (b0,b1) trivial ?_ ?_
           focus (repeat (first|exact Le.nil _|refine Le.cons rfl ?_))
           exact I8)
  rintro ⟨b6,b7⟩-
  dsimp only
  repeat' (first|(apply F3;first|(apply C8;refine A8 ?_)|(apply C9;refine D8 rfl rfl ?_)|(apply E5;refine F5 rfl rfl rfl ?_;first|(apply AW4;refine Aq0 rfl rfl (by omega) (by omega) ?_)|refine F7 rfl ?_)|(apply F4;first|(refine F8 rfl rfl ?_;refine G6 rfl ?_)|(refine F8 rfl rfl ?_;first|refine G6 hm ?_ |refine G6 hsh ?_ |refine G6 hp0 ?_ |refine K5 hSb ?_ |refine K5 hTb ?_))|(apply D6;refine D9 rfl rfl ?_)|(apply I6;refine I9 rfl rfl ?_;apply O1;refine O3 rfl ?_)|(apply G7;refine G8 (E8 rfl rfl) rfl ?_)|(apply M4;refine N9 (AB7 rfl rfl rfl (by omega) (by omega)) rfl ?_)|(apply H6;first|refine F9 rfl rfl rfl (cS _ I8) rfl rfl ?_ |refine F9 rfl rfl rfl (cT _ I8) rfl rfl ?_)|(apply I1;refine J9 rfl rfl rfl rfl ?_;first|(apply I7)|(apply AP0<;>intro hq<;>(try (exfalso;omega)))))|(apply D7)|(apply F6)|((fail_if_success (refine K3 (id:=8) ?_));apply A7)|(refine G5 rfl ?_;first|(apply I5)|(apply X6<;>intro hq<;>(try (exfalso;omega))))|(apply D5))
  all_goals (skip)
  clear cS cT
  refine j4 (α:=Bool) (fun f=>[(2,.pointer (some ⟨b2,0,none⟩)),(3,.pointer (some ⟨b3,0,none⟩)),(6,.pointer (some ⟨b6,0,none⟩)),(7,.pointer (some ⟨b7,0,none⟩)),(52,.bool f)])
    (fun _=> .blk b6 29 [.int .i64 w,.int .i64 h,.slice ga gn gc]:: .blk b7 29 [.int .i64 w,.int .i64 h,.slice ta tn tc]:: .blk b3 41 T:: .blk b2 41 S::H) (fun f=>f=true↔(C0=C∧r0=r∧c0=c∧p0=p)) ?_ ?_
  · obtain⟨f1,f2,f3⟩:=p0
    obtain⟨q1,q2,q3⟩:=p
    dsimp only at spen tpen
    repeat' (first|(apply F3;first|(apply C8;refine A8 ?_)|(apply C9;refine D8 rfl rfl ?_)|(apply E5;refine F5 rfl rfl rfl ?_;first|(refine A05 (Ay2 _ _ _ _ _ _ _ rfl) (by kernel_rfl) ?_)|(refine F7 rfl ?_))|(apply F4;first|(refine F8 rfl rfl ?_;refine G6 rfl ?_)|(refine F8 rfl rfl ?_;first|refine G6 srow ?_ |refine G6 scol ?_ |refine G6 trow ?_ |refine G6 tcol ?_ |refine L8 spen rfl ?_ |refine L8 tpen rfl ?_))|(apply D6;refine D9 rfl rfl ?_)|(apply I6;refine I9 rfl rfl ?_;first|(apply Q9;refine Q8 rfl ?_)|(apply O1;refine O3 rfl ?_))|(apply G7;refine G8 (E8 rfl rfl) rfl ?_)|(apply H6;refine F9 rfl rfl rfl (cE _) rfl rfl ?_)|(apply I1;refine J9 rfl rfl rfl rfl ?_;first|(apply I7)|(apply I5)|(apply E9<;>intro hq<;>(try (exfalso;omega)))))|(apply A7))
    all_goals first
      | (have x1:C0=C:=(by assumption)
         have x2:r0=r:=(by assumption)
         have x3:c0=c:=(by assumption)
         refine J6 (decide ((f1,f2,f3)=(q1,q2,q3))) ?_ ?_ ?_
         focus exact⟨fun hf=>⟨x1,x2,x3,of_decide_eq_true hf⟩,fun hf=>decide_eq_true hf.2.2.2⟩
         focus (repeat (first|exact Le.nil _|refine Le.cons rfl ?_))
         exact I8)
      | (have x0:¬(C0=C∧r0=r∧c0=c):=(by rintro ⟨y1,y2,y3⟩;first|exact absurd y1 (by assumption)|exact absurd y2 (by assumption)|exact absurd y3 (by assumption))
         refine J6 false ?_ ?_ ?_
         focus exact⟨fun hf=>(nomatch hf),fun hf=>absurd ⟨hf.1,hf.2.1,hf.2.2.1⟩ x0⟩
         focus (repeat (first|exact Le.nil _|refine Le.cons rfl ?_))
         exact I8)
  intro f hf
  clear cE sg tg srow scol hm hsh hp0 so to'
  unfold drawL
  cases f with
  | true=>
    rw[if_pos (hf.1 rfl)]
    repeat' (first|(apply F3;first|(apply C8;refine A8 ?_)|(apply D6;refine D9 rfl rfl ?_))|(apply D7)|(apply H7)|(apply A7)|(refine G5 rfl ?_;apply I7)|(apply D5)|(apply J4)|(apply U1))
    all_goals (skip)
    exact M9 H (by first|exact .inl rfl|exact .inr rfl) rfl I8 ⟨none,0,[],rfl,rfl,⟨fun w _=>At.nil w none⟩⟩
  | false=>
    rw[if_neg fun h=>nomatch hf.2 h]
    clear hf
    obtain⟨f1,f2,f3⟩:=p0
    obtain⟨q1,q2,q3⟩:=p
    dsimp only at spen tpen hpn hpn2
    repeat' (first|(apply F3;first|(apply C8;refine A8 ?_)|(apply C9;refine D8 rfl rfl ?_)|(apply F4;first|(refine F8 rfl rfl ?_;refine G6 rfl ?_)|(refine F8 rfl rfl ?_;refine L8 spen rfl ?_))|(apply D6;refine D9 rfl rfl ?_)|(apply G7;refine G8 (E8 rfl rfl) rfl ?_)|(apply P5;refine R7 (O6 rfl rfl rfl) rfl ?_)|(apply K9;refine O5 rfl rfl rfl rfl rfl rfl (fun _=>?_)))|(apply D7)|(apply G9)|(apply F6)|((fail_if_success (refine K3 (id:=12) ?_));apply A7)|(refine G5 rfl ?_;apply I5)|(apply D5)|(apply J2))
    all_goals (skip)
    rename_i bd
    have hrows:=fun k hk=>(Ad6 (C0:=C0) (w:=w) (p:=(f1,f2,f3)) hC k hk).2.2
    have hrpen:=fun k=>A61 (C0:=C0) (w:=w) (p:=(f1,f2,f3)) hpn hC k
    refine R9 (α:=Nat×Option Addr×Nat) (fun g=>[(3,.pointer (some ⟨b3,0,none⟩)),(6,.pointer (some ⟨b6,0,none⟩)),(7,.pointer (some ⟨b7,0,none⟩)),(8,.pointer (some ⟨bd,0,none⟩)),(84,.int .i64 h),(85,.int .i64 g.1)])
      (fun g=> .blk bd 125 (drwC g.2.1 (rowsD C0 C w (f1,f2,f3) g.1).1.length g.2.2 (rowsD C0 C w (f1,f2,f3) g.1).2.1 (rowsD C0 C w (f1,f2,f3) g.1).2.2.1 (rowsD C0 C w (f1,f2,f3) g.1).2.2.2):: .own 3 1 g.2.1 (rowsD C0 C w (f1,f2,f3) g.1).1.length g.2.2 (ints (rowsD C0 C w (f1,f2,f3) g.1).1):: .blk b6 29 [.int .i64 w,.int .i64 h,.slice ga gn gc]:: .blk b7 29 [.int .i64 w,.int .i64 h,.slice ta tn tc]:: .blk b3 41 T:: .blk b2 41 S::H)
      (fun g=>g.1≤h) (fun g=>h-g.1) (0,none,0) (Nat.zero_le _) (by repeat (first|exact Le.nil _|refine Le.cons (by (rfl)) ?_)) (fun _ hw=>(hw.nilrow _ _).subs (by repeat (first|refine Subs.cons (by repeat constructor) ?_ |exact Subs.sub N7))) ?_
    rintro ⟨n,a,cp⟩ hn
    dsimp only at hn ⊢
    by_cases hlt:(n:Int)<h
    · have hb:=hrows n (by omega)
      have hnp:=hrpen n
      have hsucc:=Aa0 C0 C w (f1,f2,f3) n
      generalize rowsD C0 C w (f1,f2,f3) n=st at *
      obtain⟨out,u1,u2,u3⟩:=st
      dsimp only at hb hnp ⊢
      have hb2:out.length≤811380:=Nat.le_trans hb (Nat.le_trans (Nat.mul_le_mul (show n≤60 by omega) (show 83+84 * w≤13523 by omega)) (by decide))
      have cR0:=fun (H:List Ent) [RdC G H ga (qds C0)]=>Ap9 G H C0 ga w h gn gc n rfl hgn (by omega) hgc (by rw[hgn,hl0]) hz.1 (by omega) (by omega)
      have cR1:=fun (H:List Ent) [RdC G H ta (qds C)]=>Ap9 G H C ta w h tn tc n rfl htn (by omega) htc (by rw[htn,hl1]) hz.1 (by omega) (by omega)
      have hlr0:=j5 (w:=w) (h:=h) (k:=n) (C:=C0) (by omega) hl0
      have hlr1:=j5 (w:=w) (h:=h) (k:=n) (C:=C) (by omega) hl1
      have hR:∀q∈rowQ w C n,celR q:=fun q hq=>hC q (AZ2 hq)
      unfold rowD at hsucc
      dsimp only at hsucc
      generalize rowQ w C0 n=R0 at *
      generalize rowQ w C n=R at *
      have cQ:=fun (H:List Ent) (a0 a1:Option Addr) (k0 k1:Nat) (h0:RdC G H a0 (qds R0)) (h1:RdC G H a1 (qds R))=>Ab6 G H R0 R a0 a1 w w k0 k1 rfl rfl hlr0.symm hlr1.symm (by omega) (by omega)
      repeat' (first|(apply F3;first|(apply C8;refine A8 ?_)|(apply C9;refine D8 rfl rfl ?_)|(apply E5;refine F5 rfl rfl rfl ?_;first|(apply M0;refine L9 ⟨by omega,by omega⟩ ?_)|refine F7 rfl ?_)|(apply F4;refine F8 rfl rfl ?_;refine K5 rfl ?_)|(apply D6;refine D9 rfl rfl ?_)|(apply H6;first|(refine c_call rfl rfl rfl (cR1 _) rfl rfl ?_;rintro _ _ ⟨ra,rc,rfl,rfl⟩)|(refine c_call rfl rfl rfl (cR0 _) rfl rfl ?_;rintro _ _ ⟨ra0,rc0,rfl,rfl⟩)|refine F9 rfl rfl rfl (cQ _ _ _ _ _ inferInstance inferInstance) rfl rfl ?_))|(apply D7)|(apply G9)|(apply N8)|(apply F6)|((fail_if_success (refine K3 (id:=16) ?_));apply A7)|(refine G5 rfl ?_;apply E9<;>intro hq<;>(try (exfalso;omega)))|(apply D5)|(apply J7)|(apply J8))
      all_goals (skip)
      · rename_i hq
        refine J6 (n+1,a,cp) ⟨by dsimp only;omega,by dsimp only;omega⟩ (by repeat (first|exact Le.nil _|refine Le.cons (by (rfl)) ?_)) (fun w hw=>?_)
        dsimp only
        rw[hsucc,if_pos hq]
        exact hw.subs (by repeat (first|refine Subs.cons (by repeat constructor) ?_ |exact Subs.sub N7))
      · rename_i hq
        rw[if_neg hq] at hsucc
        obtain⟨hgW,hlW,-,-⟩:=AJ8 (c:=72) (.inl rfl) (L:=[(n:Int)+1,1]) (by simp) (by simp) (by simp;omega)
        have cA:=fun (K:List Ent) (la:Option Addr) (lc:Nat) (h1:RdC G K la [.int .i64 ((n:Int)+1),.int .i64 1])=>(haveI:RdC G K la (ints [(n:Int)+1,1]):=h1;Aq3 G K hT bd out a cp u1 u2 u3 72 [(n:Int)+1,1] la lc hgW (by simp) (by omega))
        have hlc:=fun j=>Au1 (R.take j) (out++hD ((n:Int)+1) 1) (u1,u2,u3) fun q hq=>hR q (List.mem_of_mem_take hq)
        have hpc:=fun j=>Ad9 (R.take j) (out++hD ((n:Int)+1) 1) (u1,u2,u3) hnp fun q hq=>hR q (List.mem_of_mem_take hq)
        rw[List.length_append] at hlc
        have hlW:(hD ((n:Int)+1) 1).length≤83:=hlW
        unfold DrP at cA
        change ∀(K:List Ent) (la:Option Addr) (lc:Nat),_→SC Tryz.prog G _ _ _ (fun v H'=>∃a c E,v=resV []∧H'= .blk bd 125 (drwC a (out++hD ((n:Int)+1) 1).length c u1 u2 u3):: .own 3 1 a (out++hD ((n:Int)+1) 1).length c (ints (out++hD ((n:Int)+1) 1))::(E++K)) at cA
        repeat' (first|(apply F3;first|(apply C8;refine A8 ?_)|(apply C9;refine D8 rfl rfl ?_)|(apply E5;refine F5 rfl rfl rfl ?_;apply M0;refine L9 ⟨by omega,by omega⟩ ?_)|(apply H6;refine c_call rfl rfl rfl (AN8 (tb:=bd) (a1:=a) (cA _ _ _ inferInstance)) rfl rfl ?_;rintro _ _ ⟨a2,c2,E2,rfl,rfl⟩)|(apply J5;refine s_call (Q5 rfl rfl) rfl ?_)|(apply V8;refine M7 rfl rfl rfl rfl rfl rfl rfl rfl rfl rfl (fun _=>?_)))|(apply D7)|(apply F6)|((fail_if_success (refine K3 (id:=18) ?_));apply A7)|(apply D5))
        all_goals (skip)
        generalize out++hD ((n:Int)+1) 1=out1 at *
        refine R9 (α:=Nat×Option Addr×Nat) (fun g=>[(3,.pointer (some ⟨b3,0,none⟩)),(6,.pointer (some ⟨b6,0,none⟩)),(7,.pointer (some ⟨b7,0,none⟩)),(8,.pointer (some ⟨bd,0,none⟩)),(84,.int .i64 h),(85,.int .i64 n),(101,.slice ra w rc),(102,.int .i64 w),(103,.int .i64 g.1)])
          (fun g=> .blk bd 125 (drwC g.2.1 ((R.take g.1).foldl cellD (out1,u1,u2,u3)).1.length g.2.2 ((R.take g.1).foldl cellD (out1,u1,u2,u3)).2.1 ((R.take g.1).foldl cellD (out1,u1,u2,u3)).2.2.1 ((R.take g.1).foldl cellD (out1,u1,u2,u3)).2.2.2):: .own 3 1 g.2.1 ((R.take g.1).foldl cellD (out1,u1,u2,u3)).1.length g.2.2 (ints ((R.take g.1).foldl cellD (out1,u1,u2,u3)).1):: .own 97 4 ra w rc (qds R):: .blk b6 29 [.int .i64 w,.int .i64 h,.slice ga gn gc]:: .blk b7 29 [.int .i64 w,.int .i64 h,.slice ta tn tc]:: .blk b3 41 T:: .blk b2 41 S::H)
          (fun g=>g.1≤w) (fun g=>w-g.1) (0,a2,c2) (Nat.zero_le _) (by repeat (first|exact Le.nil _|refine Le.cons (by (rfl)) ?_)) (fun w hw=>hw.sub (.cons_cons _ (.cons_cons _ (.trans (.cons _ (.cons _ (.refl _))) (List.sublist_append_right E2 _))))) ?_
        rintro ⟨j,a3,c3⟩ hj
        dsimp only at hj ⊢
        by_cases hlt2:(j:Int)<w
        · obtain⟨x,hx⟩:=AA3 (X:=R) (k:=j) (by omega)
          have hlx:(qds R).length=w * 4:=by rw[Z4,hlr1]
          have e1:take? ((qds R).drop ((j:Int).toNat * 4)) 4=some [.int .i64 x.1,.int .i64 x.2.1,.int .i64 x.2.2.1,.int .i64 x.2.2.2]:=by
            have h:=Af0 (C:=R) (i:=(j:Int)) (by rw[Int.toNat_natCast];omega)
            rw[show R.getD (j:Int).toNat qz=x from by rw[Int.toNat_natCast,List.getD_eq_getElem?_getD,hx];rfl] at h
            exact h
          have hnx:(R.take (j+1)).foldl cellD (out1,u1,u2,u3)=cellD ((R.take j).foldl cellD (out1,u1,u2,u3)) x:=by
            rw[List.take_add_one,hx,List.foldl_append]
            rfl
          have hlj:=hlc j
          have hpj:=hpc j
          have hxc:=hR x (List.mem_of_getElem? hx)
          have htl:(R.take j).length≤160:=by rw[List.length_take];omega
          generalize (R.take j).foldl cellD (out1,u1,u2,u3)=st at *
          obtain⟨o3,v1,v2,v3⟩:=st
          obtain⟨rn,x1,x2,x3⟩:=x
          dsimp only at hlj hpj e1 hxc ⊢
          have hxp:penB x1 x2 x3=true:=hxc.1
          have hlT:=(Says.to (f:=v1) (r:=v2) (b:=v3) hxp).2
          have cT:=fun (K:List Ent)=>BY2 G K hT bd o3 a3 c3 v1 v2 v3 x1 x2 x3 hpj hxp (fun h0=>(AJ8 (.inr rfl) h0 (AC8 hxp).1 (AC8 hxp).2).1) (by
            by_cases h0:chL v1 v2 v3 x1 x2 x3=[]
            · rw[h0]
              have:(Y9 (4,109,0,e0,[],e0)).length≤83:=by decide+kernel
              omega
            · have:=(AJ8 (.inr rfl) h0 (AC8 hxp).1 (AC8 hxp).2).2.1
              omega)
          unfold DrP at cT
          rw[show cellD (o3,v1,v2,v3) (rn,x1,x2,x3)=if rn=0 then (o3,v1,v2,v3) else (o3++toD v1 v2 v3 x1 x2 x3++[rn],x1,x2,x3) from rfl] at hnx
          have hlo:(o3++toD v1 v2 v3 x1 x2 x3).length≤1000000:=by rw[List.length_append];omega
          generalize o3++toD v1 v2 v3 x1 x2 x3=o4 at *
          generalize qds R=vs at *
          repeat' (first|(apply F3;first|(apply C8;refine A8 ?_)|(apply E5;refine F5 rfl rfl rfl ?_;refine F7 rfl ?_)|(apply F4;refine F8 rfl rfl ?_;refine Y5 e1 rfl ?_)|(apply M4;refine N9 (K6 rfl rfl rfl hlx (by omega) (by omega)) rfl ?_)|(apply H9;refine M6 rfl rfl rfl rfl rfl rfl rfl rfl ?_)|(apply L6;refine O0 rfl rfl rfl rfl (fun _=>?_)))|(apply D7)|(apply G9)|(apply F6)|((fail_if_success (refine K3 (id:=20) ?_));apply A7)|(refine G5 rfl ?_;apply E9<;>intro hq<;>(try (exfalso;omega)))|(apply D5))
          all_goals (skip)
          rename_i b12
          repeat' (first|(apply F3;first|(apply C8;refine A8 ?_)|(apply C9;refine D8 rfl rfl ?_)|(apply E5;refine F5 rfl rfl rfl ?_;first|(apply M0;refine L9 ⟨by omega,by omega⟩ ?_)|refine F7 rfl ?_)|(apply F4;refine F8 rfl rfl ?_;first|refine G6 rfl ?_ |refine L8 rfl rfl ?_)|(apply G7;refine G8 (E8 rfl rfl) rfl ?_)|(apply H6;refine c_call rfl rfl rfl (AN8 (tb:=bd) (a1:=a3) (cT _)) rfl rfl ?_;rintro _ _ ⟨a4,c4,E4,rfl,rfl⟩))|(apply D7)|(apply G9)|((fail_if_success (refine K3 (id:=22) ?_));apply A7)|(refine G5 rfl ?_;apply X6<;>intro hq<;>(try (exfalso;omega)))|(apply D5)|(apply J2))
          all_goals (skip)
          · rename_i hq
            have hr0:¬rn=0:=by simpa using hq
            rw[if_neg hr0] at hnx
            have hgl:(o4++[rn]).length=o4.length+1:=by simp
            have hgi:ints (o4++[rn])=ints o4++[.int .i64 rn]:=by simp [ints]
            refine AF1 (.blk bd 125 (drwC a4 o4.length c4 x1 x2 x3):: .own 3 1 a4 o4.length c4 (ints o4):: .blk b12 97 [.int .i64 rn,.int .i64 x1,.int .i64 x2,.int .i64 x3]:: .own 97 4 ra w rc vs:: .blk b6 29 [.int .i64 w,.int .i64 h,.slice ga gn gc]:: .blk b7 29 [.int .i64 w,.int .i64 h,.slice ta tn tc]:: .blk b3 41 T:: .blk b2 41 S::H) (fun w hw=>hw.sub (.cons_cons _ (.cons_cons _ (List.sublist_append_right E4 _)))) ?_
            refine V3 (.blk b12 97 [.int .i64 rn,.int .i64 x1,.int .i64 x2,.int .i64 x3]:: .own 97 4 ra w rc vs:: .blk b6 29 [.int .i64 w,.int .i64 h,.slice ga gn gc]:: .blk b7 29 [.int .i64 w,.int .i64 h,.slice ta tn tc]:: .blk b3 41 T:: .blk b2 41 S::H) I8 ?_
            repeat' (first|(apply F3;first|(apply C8;refine A8 ?_)|(apply C9;refine D8 rfl rfl ?_)|(apply E5;refine F5 rfl rfl rfl ?_;apply M0;refine L9 ⟨by omega,by omega⟩ ?_)|(apply F4;refine F8 rfl rfl ?_;refine G6 rfl ?_)|(apply J5;refine R6 rfl rfl rfl rfl (by (rfl)) (by (rfl)) (by omega) rfl rfl (fun _ _=>?_))|(apply H9;refine U3 rfl rfl rfl rfl rfl rfl rfl ?_)|(apply V8;refine M7 rfl rfl rfl rfl rfl rfl rfl rfl rfl rfl (fun _=>?_)))|(apply U4;refine R5 (k:=0) I8 ?_)|(apply V6;first|(refine O9 rfl ?_)|(refine P8 rfl rfl rfl rfl (by kernel_rfl) (by decide+kernel) (by decide+kernel) ?_;first|(apply U5;refine I4 (V4 rfl rfl) ?_)|(apply U9;refine U6 rfl ?_;refine G6 rfl ?_)|(apply Q0;refine I4 (E8 rfl rfl) ?_)|(apply Y7;refine I4 (H8 rfl rfl) ?_))|(refine P9 rfl ?_)|(refine R4 (by decide+kernel) ?_)|(refine S9 (by kernel_rfl) ?_))|(apply X4;first|(refine T9 rfl)|(refine U7 (by decide+kernel) ?_)|(refine U0 rfl ?_ ?_))|(apply A7)|(apply D5)|(apply J2))
            all_goals
              rename_i ax cx
              refine J6 (j+1,ax,cx) ⟨by dsimp only;omega,by dsimp only;omega⟩ ?_ ?_
              · dsimp only
                exact(by repeat (first|exact Le.nil _|refine Le.cons (by (rfl)) ?_))
              · dsimp only
                rw[hnx]
                dsimp only
                rw[hgl,hgi]
                exact I8
          · rename_i hq
            have hr0:rn=0:=by simpa using hq
            rw[if_pos hr0] at hnx
            refine J6 (j+1,a3,c3) ⟨by dsimp only;omega,by dsimp only;omega⟩ (by repeat (first|exact Le.nil _|refine Le.cons (by (rfl)) ?_)) (fun w hw=>?_)
            dsimp only
            rw[hnx]
            exact hw.subs (by repeat (first|refine Subs.cons (by repeat constructor) ?_ |exact Subs.sub N7))
        · obtain rfl:w=j:=by omega
          rw[show R.take w=R from by rw[←hlr1,List.take_length]]
          repeat' (first|(apply F3;first|(apply C8;refine A8 ?_)|(apply C9;refine D8 rfl rfl ?_)|(apply E5;refine F5 rfl rfl rfl ?_;first|(apply M0;refine L9 ⟨by omega,by omega⟩ ?_)|refine F7 rfl ?_))|(apply D7)|(apply N8)|(apply A7)|(refine G5 rfl ?_;apply E9<;>intro hq<;>(try (exfalso;omega)))|(apply D5)|(apply J7)|(apply J2)|(apply J8))
          all_goals (skip)
          refine J6 (n+1,a3,c3) ⟨by dsimp only;omega,by dsimp only;omega⟩ (by repeat (first|exact Le.nil _|refine Le.cons (by (rfl)) ?_)) (fun w hw=>?_)
          dsimp only
          rw[hsucc]
          exact hw.subs (by repeat (first|refine Subs.cons (by repeat constructor) ?_ |exact Subs.sub N7))
    · obtain rfl:h=n:=by omega
      have hb:=hrows h (by omega)
      have hnp:=hrpen h
      have hdd:drawD C0 C w h (f1,f2,f3) (q1,q2,q3) r c=(rowsD C0 C w (f1,f2,f3) h).1++toD (rowsD C0 C w (f1,f2,f3) h).2.1 (rowsD C0 C w (f1,f2,f3) h).2.2.1 (rowsD C0 C w (f1,f2,f3) h).2.2.2 q1 q2 q3++hD (r+1) (c+1):=rfl
      rw[hdd]
      clear hdd
      generalize rowsD C0 C w (f1,f2,f3) h=st at *
      obtain⟨out,u1,u2,u3⟩:=st
      dsimp only at hb hnp ⊢
      have hb2:out.length≤811380:=Nat.le_trans hb (Nat.le_trans (Nat.mul_le_mul (show h≤60 by omega) (show 83+84 * w≤13523 by omega)) (by decide))
      have hlT:=(Says.to (f:=u1) (r:=u2) (b:=u3) hpn2).2
      have cT:=fun (K:List Ent)=>BY2 G K hT bd out a cp u1 u2 u3 q1 q2 q3 hnp hpn2 (fun h0=>(AJ8 (.inr rfl) h0 (AC8 hpn2).1 (AC8 hpn2).2).1) (by
        by_cases h0:chL u1 u2 u3 q1 q2 q3=[]
        · rw[h0]
          have:(Y9 (4,109,0,e0,[],e0)).length≤83:=by decide+kernel
          omega
        · have:=(AJ8 (.inr rfl) h0 (AC8 hpn2).1 (AC8 hpn2).2).2.1
          omega)
      have hlo:(out++toD u1 u2 u3 q1 q2 q3).length≤1000000:=by rw[List.length_append];omega
      unfold DrP at cT
      generalize out++toD u1 u2 u3 q1 q2 q3=o2 at *
      obtain⟨hgW,hlW,-,-⟩:=AJ8 (c:=72) (.inl rfl) (L:=[r+1,c+1]) (by simp) (by simp) (by simp;omega)
      have cA:=fun (K:List Ent) (a:Option Addr) (cp:Nat) (la:Option Addr) (lc:Nat) (h1:RdC G K la [.int .i64 (r+1),.int .i64 (c+1)])=>(haveI:RdC G K la (ints [r+1,c+1]):=h1;Aq3 G K hT bd o2 a cp q1 q2 q3 72 [r+1,c+1] la lc hgW (by simp) (by omega))
      unfold DrP at cA
      change ∀(K:List Ent) (a:Option Addr) (cp:Nat) (la:Option Addr) (lc:Nat),_→SC Tryz.prog G _ _ _ (fun v H'=>∃a c2 E,v=resV []∧H'= .blk bd 125 (drwC a (o2++hD (r+1) (c+1)).length c2 q1 q2 q3):: .own 3 1 a (o2++hD (r+1) (c+1)).length c2 (ints (o2++hD (r+1) (c+1)))::(E++K)) at cA
      generalize o2++hD (r+1) (c+1)=o3 at *
      repeat' (first|(apply F3;first|(apply C8;refine A8 ?_)|(apply C9;refine D8 rfl rfl ?_)|(apply E5;refine F5 rfl rfl rfl ?_;refine F7 rfl ?_)|(apply F4;refine F8 rfl rfl ?_;refine L8 tpen rfl ?_)|(apply G7;refine G8 (E8 rfl rfl) rfl ?_)|(apply H6;refine c_call rfl rfl rfl (AN8 (tb:=bd) (a1:=a) (cT _)) rfl rfl ?_;rintro _ _ ⟨a2,c2,E2,rfl,rfl⟩))|(apply D7)|(apply N8)|((fail_if_success (refine K3 (id:=26) ?_));apply A7)|(refine G5 rfl ?_;apply E9<;>intro hq<;>(try (exfalso;omega)))|(apply D5)|(apply J7)|(apply J8))
      all_goals (skip)
      refine AF1 (.blk bd 125 (drwC a2 o2.length c2 q1 q2 q3):: .own 3 1 a2 o2.length c2 (ints o2):: .blk b3 41 T::H) (fun w hw=>hw.sub (.cons_cons _ (.cons_cons _ (.trans (.cons _ (.cons _ (.cons_cons _ (.cons _ (.refl _))))) (List.sublist_append_right E2 _))))) ?_
      clear cT
      repeat' (first|(apply F3;first|(apply C8;refine A8 ?_)|(apply C9;refine D8 rfl rfl ?_)|(apply E5;refine F5 rfl rfl rfl ?_;apply M0;refine L9 ⟨by omega,by omega⟩ ?_)|(apply F4;first|(refine F8 rfl rfl ?_;refine G6 rfl ?_)|(refine F8 rfl rfl ?_;first|refine G6 trow ?_ |refine G6 tcol ?_))|(apply D6;refine D9 rfl rfl ?_)|(apply G7;refine G8 (E8 rfl rfl) rfl ?_)|(apply K8;refine M8 (H8 rfl rfl) rfl ?_)|(apply H6;refine c_call rfl rfl rfl (AN8 (tb:=bd) (a1:=a2) (cA _ _ _ _ _ inferInstance)) rfl rfl ?_;rintro _ _ ⟨a4,c4,E4,rfl,rfl⟩)|(apply V8;refine M7 rfl rfl rfl rfl rfl rfl rfl rfl rfl rfl (fun _=>?_)))|(apply D7)|(apply H7)|(apply A7)|(apply D5))
      all_goals (skip)
      refine M9 ([.own 3 1 a4 o3.length c4 (ints o3)]++H) (by (exact .inr rfl)) rfl (fun w hw=>hw.sub (.cons _ (.cons_cons _ (.trans (.cons _ (.cons _ (.refl H))) (List.sublist_append_right E4 _))))) ⟨a4,c4,_,rfl,rfl,inferInstance⟩
end
section
set_option maxHeartbeats 4000000
attribute [local irreducible] SW SL SQ AtQ SV SC BB LD PK Yields SO SOT SOA SY negC
theorem B20 (G:Ctx) (H:List Ent) (w h:Int) (x:Nat→Int) (he:sizeE w h=1):SV Tryz.prog G 5 [.int .i64 w,.int .i64 h,.agg (endsL x).toArray] H (.tuple #[.agg cliZ.toArray,.int .i64 1]):=by
  have cN:=fun (H:List Ent) (a:Option Addr) (c:Nat) (h1:RdC G H a [.string ⟨#[88,84,69,82,77]⟩]) (h2:RdC G H none (vrs []))=>Bm7 (h1:=h1) G H w h 1 [xterm] a 1 c [] none 0 0 x rfl (by decide) rfl (by decide) (.inl ⟨he,rfl⟩)
    (fun H a c _ _=>AL2 G H [xterm] a 1 c 0 rfl (fun y hy=>by rw[List.mem_singleton] at hy;subst hy;decide) (by decide))
    (fun H _=>AP3 G H [] none 0 0 rfl rfl (by decide))
  have hz:=AE5
  have ho:cliZ.all (·.oneCell')=true:=by decide+kernel
  haveI hv0:∀H,RdC G H none (vrs []):=fun H=>⟨fun _ _=> .inl rfl⟩
  refine AC6 Tryz.func5 rfl rfl rfl rfl rfl ?_
  repeat' (first|(apply F3;first|(apply C8;refine A8 ?_)|(apply C9;refine D8 rfl rfl ?_)|(apply F4;refine F8 rfl rfl ?_;refine K5 rfl ?_)|(apply D6;refine D9 rfl rfl ?_)|(apply Q6;refine U2 (K7 rfl rfl rfl) rfl ?_)|(apply H6;refine F9 rfl rfl rfl (cN _ _ _ inferInstance (hv0 _)) rfl rfl ?_)|(apply H9;refine M6 rfl rfl rfl rfl rfl rfl rfl rfl ?_)|(apply K9;refine O5 rfl rfl rfl rfl rfl rfl (fun _=>?_))|(apply L6;refine O0 rfl rfl rfl rfl (fun _=>?_))|(apply V8;refine M7 rfl rfl rfl rfl rfl rfl rfl rfl rfl rfl (fun _=>?_)))|(apply D7)|(apply H7)|(apply A7)|(apply D5))
  refine d9 H (by (exact .inr rfl)) rfl hz rfl I8 ⟨rfl,rfl⟩
def tocZ:Toc:=⟨0,0,0,0,false,0,0,0,0,0,0,0,0,0,0,0,0,0,0,0,0,0,0,false,0,0,0,0,0,.empty⟩
theorem At9 {bX:Bool} {t:Toc} {ge gd pe ps:Int} (h:Aa1 bX t ge gd pe ps):ge=0:=(Az8 h.1).1
theorem BS5 (G:Ctx) (H:List Ent):SV Tryz.prog G 36 [.agg scnZ.toArray] H (.int .i64 4):=by
  haveI h1:RdC G H none (qds []):=⟨fun _ _=> .inl rfl⟩
  haveI h2:RdC G H none (([]:List (Rx Qd)).map rxV):=⟨fun _ _=> .inl rfl⟩
  exact Ah7 G H tocZ [] [] [] none 0 0 none 0 0 none 0 0 (fun _ hx=>nomatch hx) rfl (by decide) rfl (by decide) rfl (by decide) (by decide) (by decide) 4 (.inr ⟨rfl,fun h=>by
    have:=(Ag2 (At9 h)).1
    exact absurd this.1 (by decide)⟩)
theorem BB8 (G:Ctx) (M:Int) (hM:∀H w,Holds G H w→w.cell? ⟨2,0,none⟩=some (.int .i64 M)) (hT:∀H w,Holds G H w→Lib.Utf8Tabs 0 1 w) (T:List Value) (tl:T.length=33) (w h:Int) (ta:Option Addr) (tn tc:Nat) (tg:take? (T.drop 0) 3=some [.int .i64 w,.int .i64 h,.slice ta tn tc]) (tw:T[0]? =some (.int .i64 w)) (th:T[1]? =some (.int .i64 h)) (cut:Int) (he:sizeE w h=1):SV Tryz.prog G 4 [.agg T.toArray,.int .i64 cut] [] (.bool true):=by
  have cF:∀H,SV Tryz.prog G 5 [.int .i64 w,.int .i64 h,.agg #[.int .u64 0,.int .u64 0,.int .u64 0,.int .u64 0,.int .u64 0,.int .u64 0,.int .u64 0,.int .u64 0]] H (.tuple #[.agg cliZ.toArray,.int .i64 1]):=fun H=>B20 G H w h (fun _=>0) he
  have cD:=fun H=>BF1 G H scnZ T 4 (by decide) rfl tl 4 0 0 w h none ta 0 0 tn tc rfl tg (fun H' _=>BS5 G H') (fun h=>absurd h (by decide)) (.inr (by decide))
  have cL:=fun H=>Ah5 G H M hM hT
  have hz:=AE5
  have ho:cliZ.all (·.oneCell')=true:=by decide+kernel
  have hp:take? (cliZ.drop 12) 33=some scnZ:=by unfold cliZ;exact AG1 rfl
  have hTb:Nat.beq T.length 33=true:=by rw[tl];rfl
  clear hM hT
  generalize scnZ=S at *
  generalize cliZ=Z at *
  have hz0:=AE5
  refine P7 Tryz.func4 rfl rfl rfl rfl rfl ?_
  repeat' (first|(apply F3;first|(apply C8;refine A8 ?_)|(apply C9;refine D8 rfl rfl ?_)|(apply E5;refine F5 rfl rfl rfl ?_;refine F7 rfl ?_)|(apply F4;refine F8 rfl rfl ?_;first|refine G6 tw ?_ |refine G6 th ?_ |refine L8 hp rfl ?_ |refine K5 hTb ?_)|(apply D6;refine D9 rfl rfl ?_)|(apply I6;refine I9 rfl rfl ?_;first|(apply Q9;refine Q8 rfl ?_)|(apply O1;refine O3 rfl ?_))|(apply G7;refine G8 (E8 rfl rfl) rfl ?_)|(apply Y0;refine Z8 (Z7 rfl rfl rfl) rfl ?_)|(apply Q6;refine U2 (K7 rfl rfl rfl) rfl ?_)|(apply P5;refine R7 (O6 rfl rfl rfl) rfl ?_)|(apply H6;first|refine F9 rfl rfl rfl (cF _) rfl rfl ?_ |refine F9 rfl rfl rfl (cD _) rfl rfl ?_ |refine F9 rfl rfl rfl (cL _) rfl rfl ?_)|(apply H9;refine r9 rfl rfl rfl rfl ho hz hz0 rfl ?_)|(apply K9;refine O5 rfl rfl rfl rfl rfl rfl (fun _=>?_))|(apply L6;refine O0 rfl rfl rfl rfl (fun _=>?_))|(apply I1;refine J9 rfl rfl rfl rfl ?_;first|(apply I7)|(apply X9)))|(apply D7)|(apply H7)|(apply A7)|(refine G5 rfl ?_;apply I7)|(apply D5)|(apply J4))
  all_goals (skip)
  all_goals
    refine M3 (by (exact .inr rfl)) rfl (List.nil_sublist _) ?_
    rfl
end
section
set_option maxHeartbeats 4000000
attribute [local irreducible] SW SL SQ AtQ SV SC BB LD PK Yields SO SOT SOA SY negC
/-- What a client's screen cells tell of its picture. -/
theorem ScS.pic {G:Ctx} {E:List Ent} {s:Scr} {S:List Value} (h:ScS G E s S):∃(ga:Option Addr) (gn gc:Nat),Pic S s.w s.h ga gn gc s.row s.col (s.pf,s.pr,s.pb)∧S[11]? =some (.int .i64 s.modes)∧S[18]? =some (.int .i64 s.sh)∧S[16]? =some (.int .i64 s.p0)∧RdC G E ga (qds s.C)∧gn=s.C.length∧gn≤gc:=by
  obtain⟨ga,gn,gc,oa,on,oc,pa,pn,pc,X,rfl,hS⟩:=h
  exact⟨ga,gn,gc,⟨rfl,rfl,rfl,rfl,rfl,rfl⟩,rfl,rfl,rfl,hS.g,hS.gn',hS.gc'⟩
theorem A68 {G:Ctx} {E:List Ent} {s:Scr} {S:List Value} (f:Fre s) (h:ScS G E s S) (H':List Ent) (hh:∀w,Holds G H' w→Holds G E w):SV Tryz.prog G 36 [.agg S.toArray] H' (.int .i64 0):=by
  obtain⟨ga,gn,gc,oa,on,oc,pa,pn,pc,X,rfl,hS⟩:=h.mono hh
  haveI:=hS.g
  haveI:=hS.o
  haveI:=hS.p
  exact AI7 G H' s f X ga gn gc oa on oc pa pn pc hS.gn' hS.gc' hS.on' hS.oc' hS.pn' hS.x hS.r
theorem A85 (G:Ctx) (M:Int) (hM:∀H w,Holds G H w→w.cell? ⟨2,0,none⟩=some (.int .i64 M)) (hT:∀H w,Holds G H w→Lib.Utf8Tabs 0 1 w) (T:List Value) (tl:T.length=33) (w h:Nat) (hw:(1≤w∧w≤160)∧(1≤h∧h≤60)) (ta:Option Addr) (tn tc:Nat) (tg:take? (T.drop 0) 3=some [.int .i64 w,.int .i64 h,.slice ta tn tc]) (tw:T[0]? =some (.int .i64 w)) (th:T[1]? =some (.int .i64 h)) (cut:Int) (cT:∀H',SV Tryz.prog G 36 [.agg T.toArray] H' (.int .i64 4)):SV Tryz.prog G 4 [.agg T.toArray,.int .i64 cut] [] (.bool true):=by
  haveI:Len (negC Y6 z8) 520:=⟨AE8 AD0 rfl⟩
  haveI:Len (octs kAll) 38:=⟨by rw[AA7];exact o6 _⟩
  have cF:∀H,SC Tryz.prog G 5 [.int .i64 w,.int .i64 h,.agg #[.int .u64 0,.int .u64 0,.int .u64 0,.int .u64 0,.int .u64 0,.int .u64 0,.int .u64 0,.int .u64 0]] H fun v H'=>∃S P E,v= .tuple #[.agg (wkC S (negC Y6 z8) P (octs kAll) (cliX ⟨#[]⟩ false)).toArray,.int .i64 0]∧H'=E++H∧CliS G E (newS w h) S P:=fun H=>Ah4 G H w h hw.1 hw.2 (fun _=>0)
  have cL:=fun H=>Ah5 G H M hM hT
  have hcell:∀(E:List Ent) (s:Scr) (S P:List Value) (h:CliS G E s S P),_:=fun E s S P h=>h.cells (negC Y6 z8) (octs kAll) (AB5 _ _) (AG2 _) ⟨#[]⟩ false
  have hz0:=AE5
  have hTb:Nat.beq T.length 33=true:=by rw[tl];rfl
  clear hM hT
  refine P7 Tryz.func4 rfl rfl rfl rfl rfl ?_
  repeat' (first|(apply F3;first|(apply C8;refine A8 ?_)|(apply C9;refine D8 rfl rfl ?_)|(apply F4;refine F8 rfl rfl ?_;first|refine G6 tw ?_ |refine G6 th ?_)|(apply D6;refine D9 rfl rfl ?_)|(apply G7;refine G8 (E8 rfl rfl) rfl ?_)|(apply Q6;refine U2 (K7 rfl rfl rfl) rfl ?_)|(apply P5;refine R7 (O6 rfl rfl rfl) rfl ?_)|(apply H6;refine c_call rfl rfl rfl (cF _) rfl rfl ?_;rintro _ _ ⟨S,P,E,rfl,rfl,hE⟩;(obtain⟨hl,ho⟩:=hcell _ _ _ _ hE))|(apply H9;refine r9 rfl rfl rfl rfl ho hl hz0 rfl ?_)|(apply K9;refine O5 rfl rfl rfl rfl rfl rfl (fun _=>?_))|(apply L6;refine O0 rfl rfl rfl rfl (fun _=>?_)))|(apply D7)|((fail_if_success (refine K3 (id:=2) ?_));apply A7)|(apply D5))
  rename_i b2 b5
  haveI:Len S 33:=⟨hE.1.len⟩
  have hp:take? ((wkC S (negC Y6 z8) P (octs kAll) (cliX ⟨#[]⟩ false)).drop 12) 33=some S:=AB3 rfl
  obtain⟨ga,gn,gc,hpic,-⟩:=hE.1.pic
  have f1:Fre (newS w h):=Fre.new hw
  have cD:=fun (H:List Ent) (hh:∀w,Holds G H w→Holds G E w)=>BF1 G H S T 4 (by decide) hpic.len tl 0 w h w h ga ta gn gc tn tc hpic.g tg (fun H' h2=>A68 f1 hE.1 H' fun w hw=>hh w (h2 w hw)) (fun _ H' _=>cT H') (.inl rfl)
  generalize wkC S (negC Y6 z8) P (octs kAll) (cliX ⟨#[]⟩ false)=Z at *
  clear hcell cF
  repeat' (first|(apply F3;first|(apply C8;refine A8 ?_)|(apply C9;refine D8 rfl rfl ?_)|(apply E5;refine F5 rfl rfl rfl ?_;refine F7 rfl ?_)|(apply F4;refine F8 rfl rfl ?_;first|refine L8 hp rfl ?_ |refine K5 hTb ?_)|(apply D6;refine D9 rfl rfl ?_)|(apply I6;refine I9 rfl rfl ?_;apply O1;refine O3 rfl ?_)|(apply G7;refine G8 (E8 rfl rfl) rfl ?_)|(apply Y0;refine Z8 (Z7 rfl rfl rfl) rfl ?_)|(apply Q6;refine U2 (K7 rfl rfl rfl) rfl ?_)|(apply H6;first|refine F9 rfl rfl rfl (cD _ (fun _ hw=>hw.sub (by repeat (first|exact List.sublist_append_left _ _|refine List.Sublist.cons _ ?_)))) rfl rfl ?_ |refine F9 rfl rfl rfl (cL _) rfl rfl ?_)|(apply I1;refine J9 rfl rfl rfl rfl ?_;apply I7))|(apply D7)|(apply H7)|(apply A7)|(refine G5 rfl ?_;apply I7)|(apply D5)|(apply J4))
  all_goals (skip)
  all_goals
    refine M3 (by (exact .inr rfl)) rfl (List.nil_sublist _) ?_
    rfl
end
section
set_option maxHeartbeats 2000000
theorem Aa7 {c:Int} (hc:c=72∨c=109) {L:List Int} (h0:L≠[]) (hl:L.length≤20) (hx':∀x∈L,0≤x∧x≤999):(encL (Y9 (4,c,0,e0,L,e0))).length≤83:=by
  obtain⟨h1,h2⟩:=BE7 h0 hl hx'
  have hlow:∀x∈Y9 (4,c,0,e0,L,e0),0≤x∧x<128:=fun x hx=>by
    have hx:x∈(27::91::([]++(nums ((l8 L).1++e0)++[c]))):=hx
    have hw:=(AU1 h1).1
    have hn:=(AR6 L h0 (fun n hn=>by have:=hx' n hn;omega) (by omega)).1
    rw[hw,nums_append,show nums e0=[] from by decide+kernel,List.append_nil,List.nil_append] at hx
    rcases List.mem_cons.1 hx with h|hx
    · omega
    · rcases List.mem_cons.1 hx with h|hx
      · omega
      · rcases List.mem_append.1 hx with h|h
        · have:=AY0 (hn x h)
          omega
        · rw[List.mem_singleton] at h
          omega
  rw[Ad1 _ hlow]
  exact(AJ8 hc h0 hl hx').2.1
theorem Ac4 (A B:List Int):(encL (A++B)).length=(encL A).length+(encL B).length:=by rw[Aq5,List.length_append]
theorem B43 (x:Int):(encL [x]).length≤4:=by
  rw[AJ4]
  have:=AT8 (fixR x)
  show (runeL (fixR x)++[]).length≤4
  rw[List.append_nil]
  exact this
theorem Bq4 {f r b tl tf tb:Int} (h':penB tl tf tb=true):(encL (toD f r b tl tf tb)).length≤83:=by
  obtain⟨h1,h2⟩:=AC8 (f:=f) (r:=r) (b:=b) h'
  unfold toD
  split
  · exact Nat.zero_le _
  · rename_i h0
    exact Aa7 (.inr rfl) h0 h1 h2
theorem A50:∀(R:List Qd) (L:List Int) (p:Tri),(∀q∈R,celR q)→(encL (R.foldl cellD (L,p)).1).length≤(encL L).length+87 * R.length
  | [],_,_,_=>Nat.le_add_right _ _
  | q::R,L,p,hR=>by
    rw[List.foldl_cons]
    have hq:=hR q List.mem_cons_self
    have h2:(encL (cellD (L,p) q).1).length≤(encL L).length+87:=by
      unfold cellD
      split
      · exact Nat.le_add_right _ _
      · dsimp only
        have h3:=Bq4 (f:=p.1) (r:=p.2.1) (b:=p.2.2) hq.1
        have h4:=B43 q.1
        rw[Ac4,Ac4]
        omega
    have h3:=A50 R (cellD (L,p) q).1 (cellD (L,p) q).2 fun x hx=>hR x (List.mem_cons_of_mem _ hx)
    rw[List.length_cons]
    rw[show ((cellD (L,p) q).1,(cellD (L,p) q).2)=cellD (L,p) q from rfl] at h3
    omega
theorem BG7 {C0 C:List Qd} {w:Nat} {p:Tri} (hC:∀q∈C,celR q):∀k,k≤60→(encL (rowsD C0 C w p k).1).length≤k * (83+87 * w)
  | 0,_=>Nat.zero_le _
  | k+1,hk=>by
    have ih:=BG7 (C0:=C0) (p:=p) (w:=w) hC k (by omega)
    rw[Aa0]
    generalize rowsD C0 C w p k=x at *
    obtain⟨L,q⟩:=x
    dsimp only at ih
    rw[Nat.succ_mul]
    unfold rowD
    split
    · dsimp only;omega
    · have h2:(encL (hD ((k:Int)+1) 1)).length≤83:=Aa7 (.inl rfl) (by simp) (by simp) (by simp;omega)
      have h3:=A50 (rowQ w C k) (L++hD ((k:Int)+1) 1) q fun q hq=>hC q (AZ2 hq)
      rw[Ac4] at h3
      have hl:(rowQ w C k).length≤w:=by unfold rowQ;rw[List.length_take];omega
      dsimp only
      omega
theorem Bt4 {C0 C:List Qd} {w h:Nat} {p p2:Tri} {r c:Int} (hC:∀q∈C,celR q) (hw:w≤160) (hh:h≤60) (hp:penB p2.1 p2.2.1 p2.2.2=true) (hr:0≤r∧r≤900) (hc:0≤c∧c≤900):(encL (drawD C0 C w h p p2 r c)).length≤900000:=by
  have h1:=BG7 (C0:=C0) (w:=w) (p:=p) hC h hh
  unfold drawD
  have h2:=Bq4 (f:=(rowsD C0 C w p h).2.1) (r:=(rowsD C0 C w p h).2.2.1) (b:=(rowsD C0 C w p h).2.2.2) hp
  have h3:(encL (hD (r+1) (c+1))).length≤83:=Aa7 (.inl rfl) (by simp) (by simp) (by simp;omega)
  have h4:h * (83+87 * w)≤60 * (83+87 * 160):=Nat.mul_le_mul hh (by omega)
  rw[Ac4,Ac4]
  omega
theorem BN9 {w h:Nat} {C:List Qd} (g:GrOk w h C):∀q∈C,celR q:=fun q hq=>by
  obtain⟨m,hm⟩:=List.getElem?_of_mem hq
  have hml:=(List.getElem?_eq_some_iff.1 hm).1
  have hz:=g.size
  rw[g.len] at hml
  have h1:m / w<h:=Nat.div_lt_of_lt_mul hml
  have h2:m % w<w:=Nat.mod_lt _ (by omega)
  have e:m / w * w+m % w=m:=by rw[Nat.mul_comm];exact Nat.div_add_mod m w
  have hc:=((AH2 _ _).1 (g.cell _ h1 _ h2)).1
  rw[List.getD_eq_getElem?_getD,AX7 h2,e,hm] at hc
  obtain⟨p1,p2⟩:=(AJ9 q).1 hc
  exact⟨p1,p2⟩
end
section
theorem BS8 {L:List Int} {K:Nat} (k:Nat):L.take (K+k)=L.take K++(L.drop K).take k:=List.take_add
theorem An6 {s:Scr} (f:Fre s) {L:List Int} {A:List Pa} (hS:Says L A) (hg:goodD s A) (K:Nat):goodD s (runP Y4 (L.take K)).2∧Fre (runD s (runP Y4 (L.take K)).2):=by
  have e:L=L.take K++L.drop K:=(List.take_append_drop K L).symm
  have h1:=hS.1
  rw[e,AY6] at h1
  have h2:A=(runP Y4 (L.take K)).2++(runP (runP Y4 (L.take K)).1 (L.drop K)).2:=(congrArg Prod.snd h1).symm
  rw[h2] at hg
  have h3:=((AD8 _ _ _).1 hg).1
  exact⟨h3,Ai8 _ _ f h3⟩
theorem BL4 {s:Scr} (f:Fre s) {L:List Int} {A:List Pa} (hS:Says L A) (hg:goodD s A) {K t c:Nat} (hK:K≤L.length) (ht:partR (L.drop K) t) (hc:t+c≤(encL (L.drop K)).length):
    ∃k t' B,K+k≤L.length∧partR (L.drop (K+k)) t'∧t'≤(encL (L.drop (K+k))).length∧feedU (strOfNums ((encL (L.drop K)).take t)) (strOfNums (((encL (L.drop K)).drop t).take c))=(strOfNums ((encL (L.drop (K+k))).take t'),(L.drop K).take k,0)∧(encL (L.drop (K+k))).drop t'=(encL (L.drop K)).drop (t+c)
      ∧runP (runP Y4 (L.take K)).1 ((L.drop K).take k)=((runP Y4 (L.take (K+k))).1,B)∧goodD (runD s (runP Y4 (L.take K)).2) B∧runD (runD s (runP Y4 (L.take K)).2) B=runD s (runP Y4 (L.take (K+k))).2:=by
  have hR:∀x∈L.drop K,isR x:=fun x hx=>(hS.2 x (List.mem_of_mem_drop hx)).1
  obtain⟨k,t',h1,h2,h3,h4,h5⟩:=BI0 hR ht hc
  rw[List.drop_drop] at h1 h2 h3 h5
  rw[List.length_drop] at h4
  have hr:=AY6 Y4 (L.take K) ((L.drop K).take k)
  rw[←BS8] at hr
  have hr1:=congrArg Prod.fst hr
  have hr2:=congrArg Prod.snd hr
  dsimp only at hr1 hr2
  have hgk:=(An6 f hS hg (K+k)).1
  rw[hr2] at hgk
  refine⟨k,t',(runP (runP Y4 (L.take K)).1 ((L.drop K).take k)).2,by omega,h2,h5,h1,h3,?_,((AD8 _ _ _).1 hgk).2,?_⟩
  · rw[hr1]
  · rw[hr2,AJ7]
theorem Bn4 {L:List Int} (hR:∀x∈L,isR x∧x≠10∧x≠13) {K t:Nat} (ht:partR (L.drop K) t) (htl:t≤(encL (L.drop K)).length) (hz:(encL L).length≤900000):
    (strOfNums ((encL (L.drop K)).take t)).size≤1000000∧chkU (nums (strOfNums ((encL (L.drop K)).take t)))=0∧(encL (L.drop K)).length≤900000∧(∀c,(strOfNums (((encL (L.drop K)).drop t).take c)).size=min c ((encL (L.drop K)).length-t)∧softB (strOfNums (((encL (L.drop K)).drop t).take c)))∧(strOfNums ((encL (L.drop K)).drop t)).size=(encL (L.drop K)).length-t∧okP (runP Y4 (L.take K)).1∧(runP Y4 (L.take K)).1.2.2.1.size≤1000000∧(runP Y4 (L.take K)).1.2.2.2.1.size≤1000000:=by
  have hR1:∀x∈L.drop K,isR x∧x≠10∧x≠13:=fun x hx=>hR x (List.mem_of_mem_drop hx)
  have e1:nums (strOfNums ((encL (L.drop K)).take t))=(encL (L.drop K)).take t:=Y8 fun x hx=>AH7 _ x (List.mem_of_mem_take hx)
  have hl:(encL (L.drop K)).length≤900000:=by
    have:=congrArg List.length (show encL L=encL (L.take K)++encL (L.drop K) from by rw[←Aq5,List.take_append_drop])
    rw[List.length_append] at this
    omega
  have ho:=(By6 Y4 (L.take K) Aw4 P6).1
  refine⟨?_,?_,hl,fun c=>⟨?_,?_⟩,?_,ho,?_,?_⟩
  · rw[←nums_length,e1,List.length_take]
    omega
  · rw[e1]
    exact A89 (fun x hx=>(hR1 x hx).1) ht
  · rw[←nums_length,Y8 (AR0 _ t c),List.length_take,List.length_drop]
  · exact A57 (AR0 _ t c) fun b hb=>A13 hR1 b (List.mem_of_mem_drop (List.mem_of_mem_take hb))
  · rw[←nums_length,Y8 (fun x hx=>AH7 _ x (List.mem_of_mem_drop hx)),List.length_drop]
  · have h:=(AH1 _ _ _ _ _).1 ho
    exact Nat.le_trans h.2.2.1.2 (by omega)
  · have h:=(AH1 _ _ _ _ _).1 ho
    exact Nat.le_trans h.2.2.2.2.2.1 (by omega)
theorem BO1 {l:List Int} (hl:∀x∈l,0≤x∧x≤255) (c:Nat):(strOfNums l).extract 0 c=strOfNums (l.take c)∧(strOfNums l).extract c (strOfNums l).size=strOfNums (l.drop c):=by
  have hz:(strOfNums l).size=l.length:=by rw[←nums_length,Y8 hl]
  constructor
  · apply AO7
    rw[Y8 fun x hx=>hl x (List.mem_of_mem_take hx)]
    unfold nums
    rw[ByteArray.data_extract]
    have h:=Y8 hl
    unfold nums at h
    conv=>rhs;rw[←h]
    simp [List.map_take]
  · apply AO7
    rw[Y8 fun x hx=>hl x (List.mem_of_mem_drop hx)]
    unfold nums
    rw[ByteArray.data_extract]
    have h:=Y8 hl
    unfold nums at h
    conv=>rhs;rw[←h]
    rw[hz]
    have h2:l.length=(strOfNums l).data.toList.length:=by rw[Array.length_toList];exact hz.symm
    rw[h2]
    simp [List.map_drop,List.take_of_length_le]
theorem BY7 {R:List Int} (hR:∀x∈R,isR x) {t:Nat} (ht:partR R t) (hl:(encL R).length≤t):R=[]:=by
  cases R with
  | nil=>rfl
  | cons x R=>
    exfalso
    have hx:=hR x List.mem_cons_self
    rw[AT4 hx,List.length_append] at hl
    have h1:0<(runeL x).length:=by unfold runeL;split<;>(try split)<;>(try split)<;>exact Nat.succ_pos _
    rcases ht with rfl|⟨y,h2,h3⟩
    · omega
    · cases h2
      omega
end
section
set_option maxHeartbeats 4000000
attribute [local irreducible] SW SL SQ AtQ SV SC BB LD PK Yields SO SOT SOA SY negC
theorem CliS.cellsD {G:Ctx} {E:List Ent} {s:Scr} {S P:List Value} (h:CliS G E s S P) (zp:ByteArray) (za zb:Int) (zi zg zt:ByteArray) (N K:List Value) [hN:Len N 520] [hK:Len K 38] (hN1:N.all (·.oneCell')=true) (hK1:K.all (·.oneCell')=true) (buf:ByteArray) (ed:Bool):(wkD zp za zb zi zg zt S N P K (cliX buf ed)).length=613∧(wkD zp za zb zi zg zt S N P K (cliX buf ed)).all (·.oneCell')=true:=by
  haveI:Len S 33:=⟨h.1.len⟩
  have hlP:P.length=3:=by obtain⟨_,_,_,_,h,-⟩:=h.2;rw[h];rfl
  have hP1:P.all (·.oneCell')=true:=by obtain⟨_,_,_,_,h,-⟩:=h.2;rw[h];rfl
  exact⟨AK7 hlP rfl rfl,j3 rfl h.1.one (j3 rfl hN1 (j3 hP1 hK1 rfl))⟩
theorem Av3 (G:Ctx) (M:Int) (hM:∀H w,Holds G H w→w.cell? ⟨2,0,none⟩=some (.int .i64 M)) (hT:∀H w,Holds G H w→Lib.Utf8Tabs 0 1 w) (hPw:∀H,AP2 G H) (T:List Value) (w h:Nat) (C:List Qd) (g:GrOk w h C) (ta:Option Addr) (tn tc:Nat) (r c:Int) (p:Tri) (hD:Pic T w h ta tn tc r c p) [ha:∀H,RdC G H ta (qds C)] (htn:tn=C.length) (htc:tn≤tc) (tw:T[0]? =some (.int .i64 w)) (th:T[1]? =some (.int .i64 h)) (hp2:penB p.1 p.2.1 p.2.2=true) (hr:0≤r∧r<h) (hc:0≤c∧c<w) (cut:Int) (cT:∀H',SV Tryz.prog G 36 [.agg T.toArray] H' (.int .i64 0)):SV Tryz.prog G 4 [.agg T.toArray,.int .i64 cut] [] (.bool true):=by
  haveI:Len (negC Y6 z8) 520:=⟨AE8 AD0 rfl⟩
  haveI:Len (octs kAll) 38:=⟨by rw[AA7];exact o6 _⟩
  have hw:=g.size
  have cF:∀H,SC Tryz.prog G 5 [.int .i64 w,.int .i64 h,.agg #[.int .u64 0,.int .u64 0,.int .u64 0,.int .u64 0,.int .u64 0,.int .u64 0,.int .u64 0,.int .u64 0]] H fun v H'=>∃S P E,v= .tuple #[.agg (wkC S (negC Y6 z8) P (octs kAll) (cliX ⟨#[]⟩ false)).toArray,.int .i64 0]∧H'=E++H∧CliS G E (newS w h) S P:=fun H=>Ah4 G H w h hw.1 hw.2 (fun _=>0)
  have cL:=fun H=>Ah5 G H M hM hT
  have hcell:∀(E:List Ent) (s:Scr) (S P:List Value) (h:CliS G E s S P),_:=fun E s S P h=>h.cells (negC Y6 z8) (octs kAll) (AB5 _ _) (AG2 _) ⟨#[]⟩ false
  have hz0:=AE5
  have hTb:Nat.beq T.length 33=true:=by rw[hD.len];rfl
  have hCel:=BN9 g
  have f1:Fre (newS w h):=Fre.new hw
  --what is drawn
  obtain⟨L,hL⟩:∃L,drawL (List.replicate (w * h) qb) C w h (0,0,0) p 0 0 r c=L:=⟨_,rfl⟩
  have hsay:∃A,Says L A∧goodD (newS w h) A∧(runD (newS w h) A).C=C∧(runD (newS w h) A).row=r∧(runD (newS w h) A).col=c∧((runD (newS w h) A).pf,(runD (newS w h) A).pr,(runD (newS w h) A).pb)=p:=by
    rw[←hL]
    unfold drawL
    by_cases h0:List.replicate (w * h) qb=C∧0=r∧0=c∧((0,0,0):Tri)=p
    · rw[if_pos h0]
      exact⟨[],Says.nil,trivial,h0.1,h0.2.1,h0.2.2.1,h0.2.2.2⟩
    · rw[if_neg h0]
      obtain⟨d1,d2,d3,d4,d5⟩:=Bl3 g hp2 hr hc
      exact⟨_,(Ar2 hCel (by omega) (by omega) hp2 (by omega) (by omega)).1,d1,d2,d3,d4,d5⟩
  have hLz:L.length≤820000∧(encL L).length≤900000:=by
    rw[←hL]
    unfold drawL
    split
    · exact⟨Nat.zero_le _,Nat.zero_le _⟩
    · exact⟨(Ar2 hCel (by omega) (by omega) hp2 (by omega) (by omega)).2,Bt4 hCel (by omega) (by omega) hp2 (by omega) (by omega)⟩
  obtain⟨A,hSay,hgA,hAC,hAr,hAc,hAp⟩:=hsay
  have hLr:∀x∈L,isR x:=fun x hx=>(hSay.2 x hx).1
  have hnB:nums (strOfNums (encL L))=encL L:=Y8 (AH7 L)
  have hsoft:softB (strOfNums (encL L)):=A57 (AH7 L) (A13 hSay.2)
  have hsz:(strOfNums (encL L)).size≤900000:=by rw[←nums_length,hnB];exact hLz.2
  have cO:=fun H=>Au0 G H (strOfNums (encL L)) (by omega)
  rw[Bg0 hsoft] at cO
  have cEs:=fun H=>Ar1 G H M (hM H) (strOfNums (encL L)) (by omega)
  rw[Bp1 hsoft] at cEs
  refine P7 Tryz.func4 rfl rfl rfl rfl rfl ?_
  repeat' (first|(apply F3;first|(apply C8;refine A8 ?_)|(apply C9;refine D8 rfl rfl ?_)|(apply F4;refine F8 rfl rfl ?_;first|refine G6 tw ?_ |refine G6 th ?_)|(apply D6;refine D9 rfl rfl ?_)|(apply G7;refine G8 (E8 rfl rfl) rfl ?_)|(apply Q6;refine U2 (K7 rfl rfl rfl) rfl ?_)|(apply P5;refine R7 (O6 rfl rfl rfl) rfl ?_)|(apply H6;refine c_call rfl rfl rfl (cF _) rfl rfl ?_;rintro _ _ ⟨S,P,E,rfl,rfl,hE⟩;(obtain⟨hl,ho⟩:=hcell _ _ _ _ hE))|(apply H9;refine r9 rfl rfl rfl rfl ho hl hz0 rfl ?_)|(apply K9;refine O5 rfl rfl rfl rfl rfl rfl (fun _=>?_))|(apply L6;refine O0 rfl rfl rfl rfl (fun _=>?_)))|(apply D7)|((fail_if_success (refine K3 (id:=2) ?_));apply A7)|(apply D5))
  rename_i b2 b5
  haveI:Len S 33:=⟨hE.1.len⟩
  have hp:take? ((wkC S (negC Y6 z8) P (octs kAll) (cliX ⟨#[]⟩ false)).drop 12) 33=some S:=AB3 rfl
  obtain⟨ga,gn,gc,hpic,hm,hsh,hp0,hga,hgn,hgc⟩:=hE.1.pic
  have cD:=fun (H:List Ent) (hh:∀w,Holds G H w→Holds G E w)=>(haveI:RdC G H ga (qds (newS w h).C):=⟨fun w hw=>hga.here w (hh w hw)⟩;B02 G H hPw S T w h (List.replicate (w * h) qb) C ga gn gc ta tn tc 0 0 (0,0,0) r c p hpic hD hw List.length_replicate g.len hgn hgc htn htc hm hsh hp0 BM3 hp2 hCel hr hc (fun H' h2=>A68 f1 hE.1 H' fun w hw=>hh w (h2 w hw)) (fun H' _=>cT H'))
  rw[hL] at cD
  have hwk:wkC S (negC Y6 z8) P (octs kAll) (cliX ⟨#[]⟩ false)=wkD ⟨#[]⟩ 0 0 e0 e0 e0 S (negC Y6 z8) P (octs kAll) (cliX ⟨#[]⟩ false):=rfl
  generalize hCC:wkC S (negC Y6 z8) P (octs kAll) (cliX ⟨#[]⟩ false)=C1 at *
  have cEn:=fun (H:List Ent) (a:Option Addr) (k:Nat) (h:RdC G H a (ints L))=>As2 G H L a L.length k rfl rfl (by omega)
  clear hcell cF
  repeat' (first|(apply F3;first|(apply C8;refine A8 ?_)|(apply C9;refine D8 rfl rfl ?_)|(apply E5;refine F5 rfl rfl rfl ?_;refine F7 rfl ?_)|(apply F4;refine F8 rfl rfl ?_;first|refine L8 hp rfl ?_ |refine K5 hTb ?_)|(apply D6;refine D9 rfl rfl ?_)|(apply I6;refine I9 rfl rfl ?_;apply O1;refine O3 rfl ?_)|(apply G7;refine G8 (E8 rfl rfl) rfl ?_)|(apply Y0;refine Z8 (Z7 rfl rfl rfl) rfl ?_)|(apply Q6;refine U2 (K7 rfl rfl rfl) rfl ?_)|(apply H6;first|(refine c_call rfl rfl rfl (cD _ (fun _ hw=>hw.sub (by repeat (first|exact List.sublist_append_left _ _|refine List.Sublist.cons _ ?_)))) rfl rfl ?_;rintro _ _ ⟨la,lc,E4,rfl,rfl,hla⟩)|refine F9 rfl rfl rfl (cL _) rfl rfl ?_ |refine F9 rfl rfl rfl (cEn _ _ _ ⟨fun w hw=>hla.here w (hw.sub (List.sublist_append_left _ _))⟩) rfl rfl ?_ |refine F9 rfl rfl rfl (cO _) rfl rfl ?_ |refine F9 rfl rfl rfl (cEs _) rfl rfl ?_)|(apply I1;refine J9 rfl rfl rfl rfl ?_;apply I7))|(apply D7)|(apply G9)|((fail_if_success (refine K3 (id:=6) ?_));apply A7)|(refine G5 rfl ?_;apply I5)|(apply D5))
  all_goals (skip)
  clear cL cD cEn cO cEs
  refine j4 (α:=Int) (fun nn=>[(2,.pointer (some ⟨b2,0,none⟩)),(5,.pointer (some ⟨b5,0,none⟩)),(9,.string (strOfNums (encL L))),(10,.int .i64 nn)])
    (fun _=> .blk b5 56 C1::(E++[.blk b2 41 T])) (fun nn=>1≤nn∧nn≤4096) ?_ ?_
  · repeat' (first|(apply F3;first|(apply C8;refine A8 ?_)|(apply C9;refine D8 rfl rfl ?_)|(apply D6;refine D9 rfl rfl ?_)|(apply J5;first|(refine s_call (AQ3 rfl rfl rfl) rfl ?_)|(refine s_call (A55 rfl rfl rfl) rfl ?_)))|(apply A7))
    apply J6
    case hs=>repeat (first|exact Le.nil _|refine Le.cons rfl ?_)
    case hH=>exact(fun _ hw=>hw.sub (by repeat (first|exact List.Sublist.refl _|refine List.Sublist.trans ?_ (List.sublist_append_right _ _))))
    case hI=>
      repeat' split
      all_goals omega
  intro nn hnn
  repeat' (apply F6)
  refine R9 (α:=Nat×Nat×List Value×List Value×List Ent) (fun g=>[(2,.pointer (some ⟨b2,0,none⟩)),(5,.pointer (some ⟨b5,0,none⟩)),(9,.string (strOfNums ((encL (L.drop g.1)).drop g.2.1))),(10,.int .i64 nn)])
    (fun g=> .blk b5 56 (wkD (strOfNums ((encL (L.drop g.1)).take g.2.1)) (runP Y4 (L.take g.1)).1.1 (runP Y4 (L.take g.1)).1.2.1 (runP Y4 (L.take g.1)).1.2.2.1 (runP Y4 (L.take g.1)).1.2.2.2.1 (runP Y4 (L.take g.1)).1.2.2.2.2 g.2.2.1 (negC Y6 z8) g.2.2.2.1 (octs kAll) (cliX ⟨#[]⟩ false))::(g.2.2.2.2++[.blk b2 41 T]))
    (fun g=>g.1≤L.length∧partR (L.drop g.1) g.2.1∧g.2.1≤(encL (L.drop g.1)).length∧CliS G g.2.2.2.2 (runD (newS w h) (runP Y4 (L.take g.1)).2) g.2.2.1 g.2.2.2.1) (fun g=>(encL (L.drop g.1)).length-g.2.1) (0,0,S,P,E) ⟨Nat.zero_le _,.inl rfl,Nat.zero_le _,hE⟩ (by repeat (first|exact Le.nil _|refine Le.cons (by (rfl)) ?_)) (fun w hw=>by rw[hwk] at hw;exact hw) ?_
  clear hE hwk hCC hl ho hp hpic hm hsh hp0 hga hgn hgc
  rintro ⟨K,t,S,P,E⟩ ⟨hK,hpt,htl,hE⟩
  dsimp only at hK hpt htl hE ⊢
  obtain⟨z1,z2,z3,z4,z5,z6,z7,z8'⟩:=Bn4 hSay.2 hpt htl hLz.2
  have hcut:=BO1 (l:=(encL (L.drop K)).drop t) fun x hx=>AH7 _ x (List.mem_of_mem_drop hx)
  by_cases hlt:t<(encL (L.drop K)).length
  · obtain⟨c,hc1⟩:∃c:Nat,(c:Int)=min nn ((encL (L.drop K)).length-t:Nat):=⟨(min nn ((encL (L.drop K)).length-t:Nat)).toNat,by omega⟩
    obtain⟨k,t',B,y1,y2,y3,y4,y5,y6,y7,y8⟩:=BL4 f1 hSay hgA hK hpt (c:=c) (by omega)
    have hn0:(strOfNums ((encL (L.drop K)).drop t)).size≠0:=by omega
    have hd:(strOfNums (((encL (L.drop K)).drop t).take c)).size≠0∧(strOfNums (((encL (L.drop K)).drop t).take c)).size≤4096:=by
      rw[(z4 c).1]
      omega
    have cP:=fun (H:List Ent) (hh:∀w,Holds G H w→Holds G E w)=>Bg6 G H _ _ _ _ _ _ _ _ _ _ _ _ z1 z2 z6 z7 z8' M hM hT _ (An6 f1 hSay hgA K).2 S P (hE.mono hh) _ (z4 c).2 hd _ y4 (by rw[List.length_take,List.length_drop];omega) B y6 y7
    simp only[y8] at cP
    have hc1':=fun (E:List Ent) (S P:List Value) (h:CliS G E (runD (newS w h) (runP Y4 (L.take (K+k))).2) S P)=>h.cellsD (strOfNums ((encL (L.drop (K+k))).take t')) (runP Y4 (L.take (K+k))).1.1 (runP Y4 (L.take (K+k))).1.2.1 (runP Y4 (L.take (K+k))).1.2.2.1 (runP Y4 (L.take (K+k))).1.2.2.2.1 (runP Y4 (L.take (K+k))).1.2.2.2.2 (negC Y6 z8) (octs kAll) (AB5 _ _) (AG2 _) ⟨#[]⟩ false
    obtain⟨hl,ho⟩:=hE.cellsD (strOfNums ((encL (L.drop K)).take t)) (runP Y4 (L.take K)).1.1 (runP Y4 (L.take K)).1.2.1 (runP Y4 (L.take K)).1.2.2.1 (runP Y4 (L.take K)).1.2.2.2.1 (runP Y4 (L.take K)).1.2.2.2.2 (negC Y6 z8) (octs kAll) (AB5 _ _) (AG2 _) ⟨#[]⟩ false
    have hlb:Nat.beq (wkD (strOfNums ((encL (L.drop K)).take t)) (runP Y4 (L.take K)).1.1 (runP Y4 (L.take K)).1.2.1 (runP Y4 (L.take K)).1.2.2.1 (runP Y4 (L.take K)).1.2.2.2.1 (runP Y4 (L.take K)).1.2.2.2.2 S (negC Y6 z8) P (octs kAll) (cliX ⟨#[]⟩ false)).length 613=true:=by rw[hl];rfl
    have hx1:∀h:Int,h=c→(strOfNums ((encL (L.drop K)).drop t)).extract (0:Int).toNat h.toNat=strOfNums (((encL (L.drop K)).drop t).take c):=fun h e=>by
      subst e
      exact(hcut c).1
    have hx2:∀h:Int,h=c→(strOfNums ((encL (L.drop K)).drop t)).extract h.toNat ((strOfNums ((encL (L.drop K)).drop t)).size:Int).toNat=strOfNums ((encL (L.drop (K+k))).drop t'):=fun h e=>by
      subst e
      rw[y5,←List.drop_drop]
      exact(hcut c).2
    have cE:=fun H=>Ak1 G H (strOfNums (((encL (L.drop K)).drop t).take c))
    have hmu:(encL (L.drop (K+k))).length-t'<(encL (L.drop K)).length-t:=by
      have:=congrArg List.length y5
      rw[List.length_drop,List.length_drop] at this
      omega
    generalize strOfNums (((encL (L.drop K)).drop t).take c)=dd at *
    have hsz0:(strOfNums ((encL (L.drop K)).drop t)).size=(encL (L.drop K)).length-t:=z5
    generalize hrem:strOfNums ((encL (L.drop K)).drop t)=rem at *
    generalize hCA:wkD (strOfNums ((encL (L.drop K)).take t)) (runP Y4 (L.take K)).1.1 (runP Y4 (L.take K)).1.2.1 (runP Y4 (L.take K)).1.2.2.1 (runP Y4 (L.take K)).1.2.2.2.1 (runP Y4 (L.take K)).1.2.2.2.2 S (negC Y6 z8) P (octs kAll) (cliX ⟨#[]⟩ false)=CA at *
    generalize hll:(encL (L.drop K)).length-t=ll at *
    clear z1 z2 z4 z6 z7 z8' hcut y4 y6 y7 y8 hrem hCA
    repeat' (first|(apply F3;first|(apply C8;refine A8 ?_)|(apply C9;refine D8 rfl rfl ?_)|(apply E5;refine F5 rfl rfl rfl ?_;refine BF4 ?_)|(apply D6;refine D9 rfl rfl ?_))|(apply D7)|(apply G9)|(apply F6)|((fail_if_success (refine K3 (id:=10) ?_));apply A7)|(refine G5 rfl ?_;apply E9<;>intro hq<;>(try (exfalso;omega)))|(apply D5))
    all_goals (skip)
    repeat' (first|(apply F3;first|(apply C8;refine A8 ?_)|(apply C9;refine D8 rfl rfl ?_)|(apply E5;refine F5 rfl rfl rfl ?_;first|(refine Ae9 rfl ?_)|(refine F7 rfl ?_))|(apply F4;refine F8 rfl rfl ?_;refine K5 hlb ?_)|(apply D6;refine D9 rfl rfl ?_)|(apply I6;refine I9 rfl rfl ?_;apply O1;refine O3 rfl ?_)|(apply H6;first|refine F9 rfl rfl rfl (cE _) rfl rfl ?_ |(refine c_call rfl rfl rfl (cP _ (fun _ hw=>hw.sub (by repeat (first|exact List.sublist_append_left _ _|refine List.Sublist.cons _ ?_)))) rfl rfl ?_;rintro _ _ ⟨S2,P2,E2,rfl,rfl,hE2⟩;(obtain⟨hl2,ho2⟩:=hc1' _ _ _ hE2);(generalize hC2:wkD (strOfNums ((encL (L.drop (K+k))).take t')) (runP Y4 (L.take (K+k))).1.1 (runP Y4 (L.take (K+k))).1.2.1 (runP Y4 (L.take (K+k))).1.2.2.1 (runP Y4 (L.take (K+k))).1.2.2.2.1 (runP Y4 (L.take (K+k))).1.2.2.2.2 S2 (negC Y6 z8) P2 (octs kAll) (cliX ⟨#[]⟩ false)=C2 at *)))|(apply J5;first|(refine s_call (A55 rfl rfl rfl) rfl ?_)|refine s_call (Q3 rfl rfl) rfl ?_)|(apply H9;refine r9 rfl rfl rfl rfl ho2 hl2 hl rfl ?_)|(apply o7;refine AM2 (AG0 (hx2 _ (by omega)) rfl rfl rfl rfl (by omega) (by omega) (by omega)) rfl ?_)|(apply I1;refine J9 rfl rfl rfl rfl ?_;apply I7))|(apply U4;refine R5 (k:=0) (fun _ hw=>hw.sub (by repeat (first|exact List.Sublist.refl _|refine List.Sublist.cons _ ?_ |refine List.Sublist.trans ?_ (List.sublist_append_right _ _)))) ?_)|(apply V6;first|(refine O9 rfl ?_)|(refine P8 rfl rfl rfl rfl (by kernel_rfl) (by decide+kernel) (by decide+kernel) ?_;first|(apply U5;refine I4 (V4 rfl rfl) ?_)|(apply Z0;refine I4 (X7 rfl rfl) ?_)|(apply AO9;refine I4 (K7 rfl rfl rfl) ?_)|(apply CI3;first|(refine I4 (A55 rfl rfl rfl) ?_)|refine I4 (Q3 rfl rfl) ?_)|(apply Ai1;refine I4 (AG0 (hx1 _ (by omega)) rfl rfl rfl rfl (by omega) (by omega) (by omega)) ?_))|(refine P9 rfl ?_)|(refine R4 (by decide+kernel) ?_)|(refine S9 (by kernel_rfl) ?_))|(apply X4;first|(refine T9 rfl)|(refine U7 (by decide+kernel) ?_)|(refine U0 rfl ?_ ?_))|(apply D7)|(apply G9)|(apply A7)|(refine G5 rfl ?_;apply I5)|(apply D5)|(apply J2)|(refine K3 (id:=10) ?_;refine AA9 (b:=b5) ?_))
    all_goals (skip)
    all_goals
      subst hC2
      subst hll
      exact J6 (K+k,t',S2,P2,E2) ⟨⟨y1,y2,y3,hE2⟩,hmu⟩ (by repeat (first|exact Le.nil _|refine Le.cons (by (rfl)) ?_)) (fun _ hw=>hw.sub (by repeat (first|exact List.Sublist.refl _|refine List.Sublist.append (List.Sublist.refl _) ?_ |refine List.Sublist.cons_cons _ ?_ |refine List.Sublist.trans ?_ (List.sublist_append_right _ _))))
  · have hR0:L.drop K=[]:=BY7 (fun x hx=>hLr x (List.mem_of_mem_drop hx)) hpt (by omega)
    have hLK:L.take K=L:=List.take_of_length_le (by
      have:=congrArg List.length hR0
      rw[List.length_drop] at this
      exact Nat.le_of_sub_eq_zero this)
    haveI:Len S 33:=⟨hE.1.len⟩
    have hpS:take? ((wkD (strOfNums ((encL (L.drop K)).take t)) (runP Y4 (L.take K)).1.1 (runP Y4 (L.take K)).1.2.1 (runP Y4 (L.take K)).1.2.2.1 (runP Y4 (L.take K)).1.2.2.2.1 (runP Y4 (L.take K)).1.2.2.2.2 S (negC Y6 z8) P (octs kAll) (cliX ⟨#[]⟩ false)).drop 12) 33=some S:=AB3 rfl
    obtain⟨ga2,gn2,gc2,hpic,-,-,-,hga,hgn,-⟩:=hE.1.pic
    rw[hLK,show (runP Y4 L).2=A from congrArg Prod.snd hSay.1,(AP6 A _).1,(AP6 A _).2.1,hAC,hAr,hAc,hAp] at *
    have hs0:strOfNums ((encL (L.drop K)).drop t)=⟨#[]⟩:=by
      apply AO7
      rw[Y8 (fun x hx=>AH7 _ x (List.mem_of_mem_drop hx)),List.drop_of_length_le (by omega)]
      rfl
    have cS:=fun (H:List Ent) (hh:∀w,Holds G H w→Holds G E w)=>(haveI:RdC G H ga2 (qds C):=⟨fun w hw=>hga.here w (hh w hw)⟩;A40 G H S T w h C ga2 gn2 gc2 ta tn tc r c p.1 p.2.1 p.2.2 (by rw[hpic.len];rfl) hTb hpic.g hD.g hpic.row hpic.col hpic.pen hD.row hD.col hD.pen hgn htn (by
      rw[g.len]
      calc w * h≤160 * 60:=Nat.mul_le_mul hw.1.2 hw.2.2
        _≤_:=by decide))
    generalize hCA:wkD _ _ _ _ _ _ S (negC Y6 z8) P (octs kAll) (cliX ⟨#[]⟩ false)=CA at *
    generalize strOfNums ((encL (L.drop K)).drop t)=rem at *
    clear hCA z1 z2 z3 z4 z5 z6 z7 z8' hcut
    repeat' (first|(apply F3;first|(apply C8;refine A8 ?_)|(apply C9;refine D8 rfl rfl ?_)|(apply E5;refine F5 rfl rfl rfl ?_;refine Ae9 hs0 ?_)|(apply F4;refine F8 rfl rfl ?_;first|refine L8 hpS rfl ?_ |refine K5 hTb ?_)|(apply D6;refine D9 rfl rfl ?_)|(apply G7;refine G8 (E8 rfl rfl) rfl ?_)|(apply H6;refine F9 rfl rfl rfl (cS _ (fun _ hw=>hw.sub (by repeat (first|exact List.sublist_append_left _ _|refine List.Sublist.cons _ ?_)))) rfl rfl ?_))|(apply D7)|(apply H7)|(apply N8)|(apply A7)|(refine G5 rfl ?_;apply I5)|(apply D5)|(apply J7)|(apply J8))
    all_goals (skip)
    refine M3 (by (exact .inr rfl)) rfl (List.nil_sublist _) ?_
    rfl
end
end Go.Proofs.YtmmnimagbnlcmaaGreatDoor
