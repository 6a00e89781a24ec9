/- Texts of this claim, merged: IacR IacU IacF Env Env4 Cli5 Cli6 Cli7 Cli10. -/
import Derived.Test.YtmmnimagbnlcmaaGreatDoorTy10
import Derived.WalkKit
import Derived.WalkSpells
import Derived.WalkLawsBesides
import Derived.Handy
import Derived.Lib.Hide
import Derived.Laws.BitsAllLaws
import Derived.Deep.MidRow
import Derived.Deep.WholeRow
import Derived.BigQuiet
import Derived.Laws.CopyOwn
import Derived.Deep.QuietTactic
import Derived.Laws.AppendOwnNone
import Derived.Laws.MakeOwn
import Derived.Laws.IdiomStrings
import Derived.OrdersHeld
import Derived.Lib.SliceRun
import Derived.ChangeKeysEq
import Derived.Laws.CopyRow
import Derived.Lib.Replace
import Derived.Lib.AppendStr
import Derived.ArgAppend
import Derived.Test.YtmmnimagbnlcmaaGreatDoorRows
import Derived.Shelf.Strings.Builder1
import Derived.Shelf.Strings.Builder2
import Derived.Shelf.Strings.OnBuilder
import Derived.Shelf.Strings.Trim
import Derived.Shelf.Small.Utf8
import Derived.Shelf.Small.Strs
import Derived.Shelf.Strings.BuilderF
import Derived.Shelf.Strconv.Itoa0
import Derived.Shelf.Strconv.Itoa1
import Derived.Shelf.LaysM
import Derived.Shelf.Strconv.Itoa2
import Derived.Shelf.Strconv.Itoa3
import Derived.Shelf.Strings.Search1
import Derived.Shelf.Strings.Search2
import Derived.Shelf.Strings.Search3
import Derived.Shelf.Strings.Count
import Derived.Shelf.Strings.Shaped
import Derived.Shelf.Strings.LastIndex
import Derived.Shelf.Strings.Prefix
import Derived.Shelf.Strings.Split
import Derived.Shelf.Strings.Replace
import Derived.Shelf.Strings.SplitShaped
import Derived.Shelf.Strings.Runes
import Derived.Shelf.Strings.AsciiSet
import Derived.Shelf.Bits.Mul64
import Derived.Shelf.Strings.Repeat
import Derived.Shelf.Unicode.DecodeSlow
import Derived.Shelf.Unicode.DecodeAny
import Derived.Shelf.Unicode.ValidAny
import Derived.Test.YtmmnimagbnlcmaaGreatDoorProg
import Derived.Lib.Repeat
import Derived.Lib.Join
import Derived.Lib.IndexLaws
import Derived.StillTailTactics
import Derived.RegionTactic
import Derived.ChangeAlike
import Derived.Laws.RangeAny
import Derived.Maps.RangeRun
import Derived.Lib.IndexMore
import Derived.Lib.SplitLaws
import Derived.Lib.Bytealg
import Derived.Lib.DecodeN
set_option maxRecDepth 100000
set_option maxHeartbeats 8000000
open Go Go.RowKit Go.Fw Go.Sx
namespace Go.Proofs.YtmmnimagbnlcmaaGreatDoor
abbrev rcC (r:Rc) (sb:ByteArray) (ab:Option Addr) (cb:Nat) (ad:Option Addr) (cd:Nat) (al:Option Addr) (cl:Nat):List Value:=
 [.int .i64 r.mode,.int .i64 r.cmd,.int .i64 r.opt,.string sb,.bool r.over,.slice ab r.buf.length cb,.slice ad r.data.length cd,.slice al r.out.length cl]
abbrev rcH (b:Nat) (r:Rc) (sb:ByteArray) (X:Ent) (ab:Option Addr) (cb:Nat) (ad:Option Addr) (cd:Nat) (al:Option Addr) (cl:Nat) (H:List Ent):List Ent:=
 .blk b 268 (rcC r sb ab cb ad cd al cl)::X:: .own 5 1 ad r.data.length cd (octs r.data):: .own 225 4 al r.out.length cl (toks r.out)::H
section
attribute [local irreducible] SW SL SQ AtQ SV SC BB LD PK Yields SO SOT SOA SY SP SPT SPA
theorem Ao1 (G:Ctx) (H:List Ent) (b:Nat) (r:Rc) (sb:ByteArray) (X:Ent) (ab:Option Addr) (cb:Nat) (ad:Option Addr) (cd:Nat) (al:Option Addr) (cl:Nat) (hl:r.out.length≤100000000):SC Tryz.prog G 184 [.pointer (some ⟨b,0,none⟩)] (rcH b r sb X ab cb ad cd al cl H) (fun v H'=>∃a1 c1 a2 c2,v=resV []∧H'=rcH b r.flush sb X ab cb a1 c1 a2 c2 H):=by
 obtain⟨mode,cmd,opt,over,buf,data,out⟩:=r
 unfold rcH rcC
 dsimp only at hl ⊢
 by_cases hd:data=[]
 ·have hf:Rc.flush ⟨mode,cmd,opt,over,buf,data,out⟩=⟨mode,cmd,opt,over,buf,data,out⟩:=by unfold Rc.flush;rw[if_pos hd]
  rw[hf]
  have hz:data.length=0:=by rw[hd];rfl
  refine Z0 Tryz.func184 O O O O O ?_
  repeat' (first|(apply E8;first|(apply A8;refine A9 ?_)|(apply C8;refine D7 O O ?_)|(apply E5;refine F7 O O O ?_;refine F9 O ?_)|(apply F5;refine F8 O O ?_;refine F4 O ?_)|(apply G6;refine G7 (D8 O O) O ?_)|(apply I9;refine J7 (F6 O O) O ?_)|(apply K5;refine s_call (S9 O O) O ?_))|(apply D6)|(apply G8)|(apply A7)|(refine G5 O ?_;apply E9<;>intro hq<;>(try (exfalso;omega)))|(apply C9))
  exact I8 _ (by (exact .inl O)) O (fun _ hw=>hw) ⟨ad,cd,al,cl,O,O⟩
 ·have hf:Rc.flush ⟨mode,cmd,opt,over,buf,data,out⟩=⟨mode,cmd,opt,over,buf,[],out++[dtok data]⟩:=by unfold Rc.flush;rw[if_neg hd]
  rw[hf]
  have hz:0<data.length:=List.length_pos_iff.2 hd
  refine Z0 Tryz.func184 O O O O O ?_
  repeat' (first|(apply E8;first|(apply A8;refine A9 ?_)|(apply C8;refine D7 O O ?_)|(apply E5;refine F7 O O O ?_;refine F9 O ?_)|(apply F5;refine F8 O O ?_;refine F4 O ?_)|(apply G6;refine G7 (D8 O O) O ?_)|(apply I9;refine J7 (F6 O O) O ?_)|(apply K5;refine s_call (S9 O O) O ?_))|(apply D6)|((fail_if_success (refine J5 (id:=1) ?_));apply A7)|(refine G5 O ?_;apply E9<;>intro hq<;>(try (exfalso;omega)))|(apply C9))
  refine AE0 15 (.blk b 268 [.int .i64 mode,.int .i64 cmd,.int .i64 opt,.string sb,.bool over,.slice ab buf.length cb,.slice ad data.length cd,.slice al out.length cl]:: .own 5 1 ad data.length cd (octs data)::H) H J3 O ?_
  repeat' (first|(apply E8;first|(apply A8;refine A9 ?_)|(apply C8;refine D7 O O ?_)|(apply G6;refine G7 (D8 O O) O ?_)|(apply I9;refine J7 (F6 O O) O ?_)|(apply K5;refine U9 O O O O (by (rfl)) (by (rfl)) (by omega) O O (fun _ _=>?_))|(apply H8;refine M9 O O O O O O O ?_)|(apply j3;refine AX2 O O O O O O O O O (fun _=>?_)))|(apply Q0;refine N8 (k:=0) J3 ?_)|(apply AN7;refine AK7 (k:=0) J3 ?_)|(apply U3;first|(refine L8 O ?_)|(refine N9 (by decide+kernel) ?_))|(apply AL2;first|(refine AH9 O ?_)|(refine AC5 O O O O (by kernel_rfl) (by decide+kernel) (by decide+kernel) (by decide+kernel) ?_;first|(apply O1;refine G9 (P9 O O) ?_)|(apply R9;refine R6 O ?_;refine F4 O ?_)|(apply M3;refine G9 (D8 O O) ?_)|(apply AM5;refine G9 (Q9 O O O) ?_)|(apply Ar4;refine G9 (AP8 (xs:=data) O O O O) ?_)|(apply R5;refine G9 (F6 O O) ?_))|(refine AC9 O ?_)|(refine AE2 (by kernel_rfl) ?_))|(apply AL3;first|(refine AE1 O)|(refine AH6 (by decide+kernel) ?_)|(refine AH3 O O ?_ ?_)|(refine AK8 O O ?_ ?_))|((fail_if_success (refine J5 (id:=99) ?_));apply A7)|(apply C9))
  all_goals
   rename_i bx a5 c5
   have e1:(out++[dtok data]).length=out.length+1:=by simp
   refine I8 _ (by (exact .inl O)) O (fun _ hw=>?_) ⟨none,0,a5,c5,O,O⟩
   dsimp only
   rw[e1,Av3]
   exact(hw.nilrow 5 1).subs (by repeat (first|refine Subs.cons (by repeat constructor) ?_ |exact Subs.sub O0))
theorem Am3 (G:Ctx) (H:List Ent) (b:Nat) (r:Rc) (t:Tk) (sb:ByteArray) (X:Ent) (ab:Option Addr) (cb:Nat) (ad:Option Addr) (cd:Nat) (al:Option Addr) (cl:Nat) (hl:r.out.length≤90000000):SC Tryz.prog G 227 [.pointer (some ⟨b,0,none⟩),tokV t.1 t.2.1 t.2.2.1 t.2.2.2] (rcH b r sb X ab cb ad cd al cl H) (fun v H'=>∃a1 c1 a2 c2,v=resV []∧H'=rcH b (r.tok t) sb X ab cb a1 c1 a2 c2 H):=by
 have cF:=fun H=>Ao1 G H b r sb X ab cb ad cd al cl (by omega)
 have hfl:r.flush.out.length≤90000001:=by rw[BS4,List.length_append];unfold Rc.opn;split<;>simp<;>omega
 unfold Rc.tok
 generalize r.flush=f at *
 obtain⟨mode,cmd,opt,over,buf,data,out⟩:=f
 dsimp only at hfl ⊢
 obtain⟨t1,t2,t3,t4⟩:=t
 refine I7 Tryz.func227 O O O O O ?_
 repeat' (first|(apply E8;first|(apply A8;refine A9 ?_)|(apply C8;refine D7 O O ?_)|(apply K6;refine L9 O O O O O O (fun _=>?_)))|(apply D6)|((fail_if_success (refine J5 (id:=2) ?_));apply A7)|(apply C9))
 rename_i bx
 refine AO9 (H':=rcH b r sb X ab cb ad cd al cl (.blk bx 225 [.int .i64 t1,.int .i64 t2,.int .i64 t3,.string t4]::H)) (fun _ hw=>by unfold rcH at hw ⊢;exact hw.subs (by repeat (first|refine Subs.cons (by repeat constructor) ?_ |exact Subs.sub O0))) ?_
 repeat' (first|(apply E8;first|(apply A8;refine A9 ?_)|(apply H5;refine c_call O O O (cF _) O O ?_;rintro _ _ ⟨a1,k1,a2,k2,rfl,rfl⟩))|(apply C9))
 unfold rcH rcC
 dsimp only
 refine AE0 10 (.blk b 268 [.int .i64 mode,.int .i64 cmd,.int .i64 opt,.string sb,.bool over,.slice ab buf.length cb,.slice a1 data.length k1,.slice a2 out.length k2]:: .blk bx 225 [.int .i64 t1,.int .i64 t2,.int .i64 t3,.string t4]::H) H J3 O ?_
 repeat' (first|(apply E8;first|(apply A8;refine A9 ?_)|(apply K5;refine U9 O O O O (by (rfl)) (by (rfl)) (by omega) O O (fun _ _=>?_))|(apply H8;refine M9 O O O O O O O ?_)|(apply j3;refine AX2 O O O O O O O O O (fun _=>?_)))|(apply Q0;refine N8 (k:=0) J3 ?_)|(apply AN7;refine AK7 (k:=0) J3 ?_)|(apply U3;first|(refine L8 O ?_)|(refine N9 (by decide+kernel) ?_))|(apply AL2;first|(refine AH9 O ?_)|(refine AC5 O O O O (by kernel_rfl) (by decide+kernel) (by decide+kernel) (by decide+kernel) ?_;first|(apply O1;refine G9 (P9 O O) ?_)|(apply R9;refine R6 O ?_;first|refine F4 O ?_ |refine M5 O ?_)|(apply M3;refine G9 (D8 O O) ?_)|(apply R5;refine G9 (F6 O O) ?_))|(refine AC9 O ?_)|(refine AE2 (by kernel_rfl) ?_))|(apply AL3;first|(refine AE1 O)|(refine AH6 (by decide+kernel) ?_)|(refine AH3 O O ?_ ?_)|(refine AK8 O O ?_ ?_)))
 all_goals
  rename_i bx a5 c5
  have e1:(out++[((t1,t2,t3,t4):Tk)]).length=out.length+1:=by simp
  refine I8 _ (by (exact .inl O)) O (fun _ hw=>?_) ⟨a1,k1,a5,c5,O,O⟩
  rw[e1,Av3]
  exact hw.subs (by repeat (first|refine Subs.cons (by repeat constructor) ?_ |exact Subs.sub O0))
theorem Bf1 (r:Rc) (m:Int) (t:Tk):({r with mode:=m}:Rc).tok t={r.tok t with mode:=m}:=by
 unfold Rc.tok Rc.flush
 split<;>rfl
theorem A71 (G:Ctx) (H:List Ent) (b:Nat) (r:Rc) (c:Int) (sb:ByteArray) (X:Ent) (ab:Option Addr) (cb:Nat) (ad:Option Addr) (cd:Nat) (al:Option Addr) (cl:Nat) (hX:BufE 5 X ab r.buf.length cb r.buf) (hl:r.buf.length≤4096):SC Tryz.prog G 228 [.pointer (some ⟨b,0,none⟩),.int .u8 c] (rcH b r sb X ab cb ad cd al cl H) (fun v H'=>∃X' a1 c1,BufE 5 X' a1 (r.sub c).buf.length c1 (r.sub c).buf∧v=resV []∧H'=rcH b (r.sub c) sb X' a1 c1 ad cd al cl H):=by
 unfold rcH rcC Rc.sub
 by_cases h1:r.buf.length=4096
 ·simp only[if_pos h1]
  refine I7 Tryz.func228 O O O O O ?_
  repeat' (first|(apply E8;first|(apply A8;refine A9 ?_)|(apply C8;refine D7 O O ?_)|(apply E5;refine F7 O O O ?_;refine F9 O ?_)|(apply F5;refine F8 O O ?_;refine F4 O ?_)|(apply G6;refine G7 (D8 O O) O ?_)|(apply X5;refine Z9 (Z8 O O O) O ?_)|(apply I9;refine J7 (F6 O O) O ?_)|(apply K5;refine s_call (S9 O O) O ?_)|(apply H8;refine M9 O O O O O O O ?_))|(apply D6)|(apply G8)|(apply A7)|(refine G5 O ?_;first|(apply H7)|(apply E9<;>intro hq<;>(try (exfalso;omega))))|(apply C9))
  exact I8 _ (by (exact .inl O)) O (fun _ hw=>(hw.nilrow _ _).subs (by repeat (first|refine Subs.cons (by repeat constructor) ?_ |exact Subs.sub O0))) ⟨_,none,0,.own none 0 0 [],O,O⟩
 ·simp only[if_neg h1]
  cases ho:r.over with
  | true=>
    simp only[if_true]
    refine I7 Tryz.func228 O O O O O ?_
    repeat' (first|(apply E8;first|(apply A8;refine A9 ?_)|(apply C8;refine D7 O O ?_)|(apply E5;refine F7 O O O ?_;refine F9 O ?_)|(apply F5;refine F8 O O ?_;refine F4 O ?_)|(apply G6;refine G7 (D8 O O) O ?_)|(apply X5;refine Z9 (Z8 O O O) O ?_)|(apply I9;refine J7 (F6 O O) O ?_)|(apply K5;refine s_call (S9 O O) O ?_))|(apply D6)|(apply G8)|(apply A7)|(refine G5 O ?_;first|(apply H7)|(apply E9<;>intro hq<;>(try (exfalso;omega))))|(apply C9))
    exact I8 _ (by first|exact .inl O|exact .inr O) O (fun _ hw=>hw) ⟨X,ab,cb,hX,O,by rw[ho]⟩
  | false=>
    simp only[Bool.false_eq_true,if_false]
    refine I7 Tryz.func228 O O O O O ?_
    repeat' (first|(apply E8;first|(apply A8;refine A9 ?_)|(apply C8;refine D7 O O ?_)|(apply E5;refine F7 O O O ?_;refine F9 O ?_)|(apply F5;refine F8 O O ?_;refine F4 O ?_)|(apply G6;refine G7 (D8 O O) O ?_)|(apply X5;refine Z9 (Z8 O O O) O ?_)|(apply I9;refine J7 (F6 O O) O ?_)|(apply K5;first|(refine BQ9 hX O O O O (by omega) O O (fun _ _ _ _=>?_))|refine s_call (S9 O O) O ?_)|(apply H8;refine M9 O O O O O O O ?_)|(apply j3;refine R8 O O O O O O O O O O (fun _=>?_)))|(apply D6)|(apply G8)|(apply A7)|(refine G5 O ?_;first|(apply I1)|(apply E9<;>intro hq<;>(try (exfalso;omega))))|(apply C9))
    rename_i X' a1 c1 hX'
    have e1:(r.buf++[c]).length=r.buf.length+1:=by simp
    refine I8 _ (by (exact .inl O)) O ?_ ⟨X',a1,c1,by rw[e1];exact hX',O,O⟩
    rw[e1]
    exact J3
theorem Bl2 (G:Ctx) (H:List Ent) (b:Nat) (r:Rc) (c:Int) (hc:0≤c∧c≤255) (sb:ByteArray) (X:Ent) (ab:Option Addr) (cb:Nat) (ad:Option Addr) (cd:Nat) (al:Option Addr) (cl:Nat) (hX:BufE 5 X ab r.buf.length cb r.buf) (hl:r.out.length≤90000000):SC Tryz.prog G 229 [.pointer (some ⟨b,0,none⟩),.int .u8 c] (rcH b r sb X ab cb ad cd al cl H) (fun v H'=>∃sb' X' a0 c0 a1 c1 a2 c2,BufE 5 X' a0 (r.fin c).buf.length c0 (r.fin c).buf∧v=resV []∧H'=rcH b (r.fin c) sb' X' a0 c0 a1 c1 a2 c2 H):=by
 haveI:=fun H=>hX.rd (G:=G) H
 have fin:∀t,r.finT c=t→r.fin c={r.tok t with mode:=0,cmd:=0,opt:=0,over:=false,buf:=[]}:=fun t ht=>by subst ht;rfl
 obtain⟨mode,cmd,opt,over,buf,data,out⟩:=r
 dsimp only at hX hl fin ⊢
 have cT:=fun H t=>Am3 G H b ⟨mode,cmd,opt,over,buf,data,out⟩ t sb X ab cb ad cd al cl hl
 by_cases h1:c=240
 ·subst h1
  cases over with
  | true=>
    have hT:Rc.finT ⟨mode,cmd,opt,true,buf,data,out⟩ 240=(5,250,opt,noB):=rfl
    rw[fin _ hT]
    have cT1:=fun H=>cT H (5,250,opt,noB)
    generalize Rc.tok ⟨mode,cmd,opt,true,buf,data,out⟩ (5,250,opt,noB)=q at *
    refine I7 Tryz.func229 O O O O O ?_
    repeat' (first|(apply E8;first|(apply A8;refine A9 ?_)|(apply C8;refine D7 O O ?_)|(apply E5;refine F7 O O O ?_;refine F9 O ?_)|(apply F5;refine F8 O O ?_;refine F4 O ?_)|(apply D5;refine D9 O O ?_)|(apply I6;refine J4 O O ?_;apply P7;refine P6 O ?_)|(apply G6;refine G7 (D8 O O) O ?_)|(apply U0;refine U6 (Q9 O O O) O ?_)|(apply I9;refine J7 (F6 O O) O ?_)|(apply H5;refine c_call O O O (cT1 _) O O ?_;rintro _ _ ⟨a1,k1,a2,k2,rfl,rfl⟩)|(apply H8;first|refine M9 O O O O O O O ?_ |(refine AQ9 O O O O O O (Nat.le_of_ble_eq_true O) O ?_))|(apply I5;refine J9 O O O O ?_;apply I1))|(apply D6)|(apply F3)|(apply A7)|(refine G5 O ?_;apply I1)|(apply C9)|(apply H9))
    refine I8 _ (by (exact .inl O)) O ?_ ⟨noB,_,none,0,a1,k1,a2,k2,.own none 0 0 [],O,O⟩
    exact fun _ hw=>(hw.nilrow 5 1).subs (by repeat (first|refine Subs.cons (by repeat constructor) ?_ |exact Subs.sub O0))
  | false=>
    have hT:Rc.finT ⟨mode,cmd,opt,false,buf,data,out⟩ 240=(4,0,opt,strOfNums buf):=rfl
    rw[fin _ hT]
    have cT1:=fun H=>cT H (4,0,opt,strOfNums buf)
    generalize Rc.tok ⟨mode,cmd,opt,false,buf,data,out⟩ (4,0,opt,strOfNums buf)=q at *
    refine I7 Tryz.func229 O O O O O ?_
    repeat' (first|(apply E8;first|(apply A8;refine A9 ?_)|(apply C8;refine D7 O O ?_)|(apply E5;refine F7 O O O ?_;refine F9 O ?_)|(apply F5;refine F8 O O ?_;refine F4 O ?_)|(apply D5;refine D9 O O ?_)|(apply I6;refine J4 O O ?_;apply P7;refine P6 O ?_)|(apply G6;refine G7 (D8 O O) O ?_)|(apply I9;refine J7 (F6 O O) O ?_)|(apply I5;refine J9 O O O O ?_;apply I1))|(apply D6)|(apply F3)|((fail_if_success (refine J5 (id:=4) ?_));apply A7)|(refine G5 O ?_;first|(apply I1)|(apply H7))|(apply C9))
    refine AE0 12 (rcH b ⟨mode,cmd,opt,false,buf,data,out⟩ sb X ab cb ad cd al cl H) H (fun _ hw=>hw) O ?_
    repeat' (first|(apply E8;first|(apply A8;refine A9 ?_)|(apply C8;refine D7 O O ?_)|(apply G6;refine G7 (D8 O O) O ?_)|(apply U0;refine U6 (Q9 O O O) O ?_)|(apply I9;refine J7 (F6 O O) O ?_)|(apply H5;refine c_call O O O (cT1 _) O O ?_;rintro _ _ ⟨a1,k1,a2,k2,rfl,rfl⟩)|(apply H8;first|refine M9 O O O O O O O ?_ |(refine AQ9 O O O O O O (Nat.le_of_ble_eq_true O) O ?_)))|(apply Q0;refine N8 (k:=0) J3 ?_)|(apply U3;first|(refine L8 O ?_)|(refine N9 (by decide+kernel) ?_))|(apply AL2;first|(refine AC5 O O O O (by kernel_rfl) (by decide+kernel) (by decide+kernel) (by decide+kernel) ?_;first|(apply O1;refine G9 (P9 O O) ?_)|(apply R9;refine R6 O ?_;refine F4 O ?_)|(apply M3;refine G9 (D8 O O) ?_)|(apply AM5;refine G9 (Q9 O O O) ?_)|(apply Ar4;refine G9 (AP8 (xs:=buf) O O O O) ?_)|(apply R5;refine G9 (F6 O O) ?_))|(refine AC9 O ?_)|(refine AE2 (by kernel_rfl) ?_))|(apply AL3;first|(refine AE1 O)|(refine AH6 (by decide+kernel) ?_)|(refine AH3 O O ?_ ?_))|((fail_if_success (refine J5 (id:=99) ?_));apply A7)|(apply C9)|(apply H9))
    refine I8 _ (by (exact .inl O)) O ?_ ⟨noB,_,none,0,a1,k1,a2,k2,.own none 0 0 [],O,O⟩
    exact fun _ hw=>(hw.nilrow 5 1).subs (by repeat (first|refine Subs.cons (by repeat constructor) ?_ |exact Subs.sub O0))
 ·have hT:Rc.finT ⟨mode,cmd,opt,over,buf,data,out⟩ c=(5,c,opt,noB):=by unfold Rc.finT;rw[if_neg h1]
  rw[fin _ hT]
  have cT1:=fun H=>cT H (5,c,opt,noB)
  generalize Rc.tok ⟨mode,cmd,opt,over,buf,data,out⟩ (5,c,opt,noB)=q at *
  refine I7 Tryz.func229 O O O O O ?_
  repeat' (first|(apply E8;first|(apply A8;refine A9 ?_)|(apply C8;refine D7 O O ?_)|(apply E5;refine F7 O O O ?_;refine F9 O ?_)|(apply F5;refine F8 O O ?_;refine F4 O ?_)|(apply D5;refine D9 O O ?_)|(apply I6;refine J4 O O ?_;apply M6;refine M7 O ?_)|(apply G6;refine G7 (D8 O O) O ?_)|(apply U0;refine U6 (Q9 O O O) O ?_)|(apply AA3;refine AA8 (AC1 (k:= .i64) O O ⟨by omega,by omega⟩) O ?_)|(apply I9;refine J7 (F6 O O) O ?_)|(apply H5;refine c_call O O O (cT1 _) O O ?_;rintro _ _ ⟨a1,k1,a2,k2,rfl,rfl⟩)|(apply H8;first|refine M9 O O O O O O O ?_ |(refine AQ9 O O O O O O (Nat.le_of_ble_eq_true O) O ?_))|(apply I5;refine J9 O O O O ?_;first|(apply H7)|(apply E9<;>intro hq<;>(try (exfalso;omega)))))|(apply D6)|(apply F3)|(apply A7)|(refine G5 O ?_;first|(apply H7)|(apply E9<;>intro hq<;>(try (exfalso;omega))))|(apply C9)|(apply H9))
  refine I8 _ (by (exact .inl O)) O ?_ ⟨noB,_,none,0,a1,k1,a2,k2,.own none 0 0 [],O,O⟩
  exact fun _ hw=>(hw.nilrow 5 1).subs (by repeat (first|refine Subs.cons (by repeat constructor) ?_ |exact Subs.sub O0))
theorem Bf3 (G:Ctx) (H:List Ent) (b:Nat) (r:Rc) (c:Int) (hc:0≤c∧c≤255) (sb:ByteArray) (X:Ent) (ab:Option Addr) (cb:Nat) (ad:Option Addr) (cd:Nat) (al:Option Addr) (cl:Nat) (hl:r.out.length≤90000000) (hd:r.data.length≤90000000):SC Tryz.prog G 226 [.pointer (some ⟨b,0,none⟩),.int .u8 c] (rcH b r sb X ab cb ad cd al cl H) (fun v H'=>∃a1 c1 a2 c2,v=resV []∧H'=rcH b (r.com c) sb X ab cb a1 c1 a2 c2 H):=by
 have cT:=fun H t=>Am3 G H b {r with mode:=0} t sb X ab cb ad cd al cl hl
 simp only[Bf1] at cT
 unfold Rc.com
 by_cases h1:c=255
 ·rw[if_pos h1]
  refine I7 Tryz.func226 O O O O O ?_
  repeat' (first|(apply E8;first|(apply A8;refine A9 ?_)|(apply C8;refine D7 O O ?_)|(apply E5;refine F7 O O O ?_;refine F9 O ?_)|(apply F5;refine F8 O O ?_;refine F4 O ?_)|(apply D5;refine D9 O O ?_)|(apply G6;refine G7 (D8 O O) O ?_)|(apply I9;refine J7 (F6 O O) O ?_)|(apply K5;refine U9 O O O O (by (rfl)) (by (rfl)) (by omega) O O (fun _ _=>?_))|(apply H8;refine M9 O O O O O O O ?_)|(apply j3;refine R8 O O O O O O O O O O (fun _=>?_)))|(apply D6)|(apply F3)|(apply A7)|(refine G5 O ?_;apply E9<;>intro hq<;>(try (exfalso;omega)))|(apply C9)|(apply H9))
  rename_i b9 a1 c1
  have e1:(r.data++[c]).length=r.data.length+1:=by simp
  have e2:octs (r.data++[c])=octs r.data++[.int .u8 c]:=by simp [octs]
  refine I8 _ (by (exact .inl O)) O ?_ ⟨a1,c1,al,cl,O,O⟩
  unfold rcH rcC
  dsimp only
  rw[e1,e2]
  exact J3
 rw[if_neg h1]
 by_cases h2:251≤c
 ·rw[if_pos h2]
  refine I7 Tryz.func226 O O O O O ?_
  repeat' (first|(apply E8;first|(apply A8;refine A9 ?_)|(apply C8;refine D7 O O ?_)|(apply E5;refine F7 O O O ?_;refine F9 O ?_)|(apply D5;refine D9 O O ?_)|(apply G6;refine G7 (D8 O O) O ?_)|(apply AA3;refine AA8 (AC1 (k:= .i64) O O ⟨by omega,by omega⟩) O ?_)|(apply I9;refine J7 (F6 O O) O ?_)|(apply H8;refine M9 O O O O O O O ?_))|(apply D6)|(apply F3)|(apply A7)|(refine G5 O ?_;apply E9<;>intro hq<;>(try (exfalso;omega)))|(apply C9)|(apply H9))
  exact I8 _ (by (exact .inl O)) O (fun _ hw=>hw) ⟨ad,cd,al,cl,O,O⟩
 rw[if_neg h2]
 by_cases h3:c=250
 ·rw[if_pos h3]
  refine I7 Tryz.func226 O O O O O ?_
  repeat' (first|(apply E8;first|(apply A8;refine A9 ?_)|(apply C8;refine D7 O O ?_)|(apply E5;refine F7 O O O ?_;refine F9 O ?_)|(apply D5;refine D9 O O ?_)|(apply G6;refine G7 (D8 O O) O ?_)|(apply I9;refine J7 (F6 O O) O ?_)|(apply H8;refine M9 O O O O O O O ?_))|(apply D6)|(apply F3)|(apply A7)|(refine G5 O ?_;apply E9<;>intro hq<;>(try (exfalso;omega)))|(apply C9)|(apply H9))
  exact I8 _ (by (exact .inl O)) O (fun _ hw=>hw) ⟨ad,cd,al,cl,O,O⟩
 rw[if_neg h3]
 by_cases h4:240≤c
 ·rw[if_pos h4]
  have cT1:=fun H=>cT H (2,c,0,noB)
  refine I7 Tryz.func226 O O O O O ?_
  repeat' (first|(apply E8;first|(apply A8;refine A9 ?_)|(apply C8;refine D7 O O ?_)|(apply E5;refine F7 O O O ?_;refine F9 O ?_)|(apply D5;refine D9 O O ?_)|(apply G6;refine G7 (D8 O O) O ?_)|(apply U0;refine U6 (Q9 O O O) O ?_)|(apply AA3;refine AA8 (AC1 (k:= .i64) O O ⟨by omega,by omega⟩) O ?_)|(apply I9;refine J7 (F6 O O) O ?_)|(apply H5;refine c_call O O O (cT1 _) O O ?_;rintro _ _ ⟨a1,k1,a2,k2,rfl,rfl⟩)|(apply H8;refine M9 O O O O O O O ?_))|(apply D6)|(apply F3)|(apply A7)|(refine G5 O ?_;apply E9<;>intro hq<;>(try (exfalso;omega)))|(apply C9)|(apply H9))
  exact I8 _ (by (exact .inl O)) O (fun _ hw=>hw) ⟨a1,k1,a2,k2,O,O⟩
 ·rw[if_neg h4]
  have cT1:=fun H=>cT H (5,c,0,noB)
  refine I7 Tryz.func226 O O O O O ?_
  repeat' (first|(apply E8;first|(apply A8;refine A9 ?_)|(apply C8;refine D7 O O ?_)|(apply E5;refine F7 O O O ?_;refine F9 O ?_)|(apply D5;refine D9 O O ?_)|(apply G6;refine G7 (D8 O O) O ?_)|(apply U0;refine U6 (Q9 O O O) O ?_)|(apply AA3;refine AA8 (AC1 (k:= .i64) O O ⟨by omega,by omega⟩) O ?_)|(apply I9;refine J7 (F6 O O) O ?_)|(apply H5;refine c_call O O O (cT1 _) O O ?_;rintro _ _ ⟨a1,k1,a2,k2,rfl,rfl⟩)|(apply H8;refine M9 O O O O O O O ?_))|(apply D6)|(apply F3)|(apply A7)|(refine G5 O ?_;apply E9<;>intro hq<;>(try (exfalso;omega)))|(apply C9)|(apply H9))
  exact I8 _ (by (exact .inl O)) O (fun _ hw=>hw) ⟨a1,k1,a2,k2,O,O⟩
theorem Bb4 (G:Ctx) (H:List Ent) (b:Nat) (r:Rc) (c:Int) (hc:0≤c∧c≤255) (sb:ByteArray) (X:Ent) (ab:Option Addr) (cb:Nat) (ad:Option Addr) (cd:Nat) (al:Option Addr) (cl:Nat) (hX:BufE 5 X ab r.buf.length cb r.buf) (hm:0≤r.mode∧r.mode≤5) (hb:r.buf.length≤4096) (hl:r.out.length≤90000000) (hd:r.data.length≤90000000):SC Tryz.prog G 183 [.pointer (some ⟨b,0,none⟩),.int .u8 c] (rcH b r sb X ab cb ad cd al cl H) (fun v H'=>∃sb' X' a0 c0 a1 c1 a2 c2,BufE 5 X' a0 (r.take c).buf.length c0 (r.take c).buf∧v=resV []∧H'=rcH b (r.take c) sb' X' a0 c0 a1 c1 a2 c2 H):=by
 have cC:=fun H=>Bf3 G H b r c hc sb X ab cb ad cd al cl hl hd
 have cT:=fun H=>Am3 G H b r (3,r.cmd,c,noB) sb X ab cb ad cd al cl hl
 have cS:=fun H=>A71 G H b r c sb X ab cb ad cd al cl hX hb
 have cS4:=fun H=>A71 G H b {r with mode:=4} c sb X ab cb ad cd al cl hX hb
 have cE:=fun H=>Bl2 G H b r c hc sb X ab cb ad cd al cl hX hl
 have htb:∀t,(r.tok t).buf=r.buf:=fun t=>(A75 r t).2.2.2.2
 have hcb:(r.com c).buf=r.buf:=by
  unfold Rc.com
  split
  ·rfl
  split
  ·rfl
  split
  ·rfl
  split
  ·exact htb (2,c,0,noB)
  ·exact htb (5,c,0,noB)
 rcases (by omega:r.mode=0∨r.mode=1∨r.mode=2∨r.mode=3∨r.mode=4∨r.mode=5) with h|h|h|h|h|h
 ·rw[Rc.t0 h]
  by_cases h1:c=255
  ·rw[if_pos h1]
   refine I7 Tryz.func183 O O O O O ?_
   repeat' (first|(apply E8;first|(apply A8;refine A9 ?_)|(apply C8;refine D7 O O ?_)|(apply E5;refine F7 O O O ?_;refine F9 O ?_)|(apply F5;refine F8 O O ?_;refine F4 O ?_)|(apply D5;refine D9 O O ?_)|(apply G6;refine G7 (D8 O O) O ?_)|(apply I9;refine J7 (F6 O O) O ?_)|(apply H8;refine M9 O O O O O O O ?_))|(apply D6)|(apply F3)|(apply A7)|(refine G5 O ?_;apply E9<;>intro hq<;>(try (exfalso;omega)))|(apply C9)|(apply H9))
   exact I8 _ (by (exact .inl O)) O (fun _ hw=>hw) ⟨sb,X,ab,cb,ad,cd,al,cl,hX,O,O⟩
  ·rw[if_neg h1]
   refine I7 Tryz.func183 O O O O O ?_
   repeat' (first|(apply E8;first|(apply A8;refine A9 ?_)|(apply C8;refine D7 O O ?_)|(apply E5;refine F7 O O O ?_;refine F9 O ?_)|(apply F5;refine F8 O O ?_;refine F4 O ?_)|(apply D5;refine D9 O O ?_)|(apply G6;refine G7 (D8 O O) O ?_)|(apply I9;refine J7 (F6 O O) O ?_)|(apply K5;refine U9 O O O O (by (rfl)) (by (rfl)) (by omega) O O (fun _ _=>?_))|(apply H8;refine M9 O O O O O O O ?_)|(apply j3;refine R8 O O O O O O O O O O (fun _=>?_)))|(apply D6)|(apply F3)|(apply A7)|(refine G5 O ?_;apply E9<;>intro hq<;>(try (exfalso;omega)))|(apply C9)|(apply H9))
   rename_i b9 a1 c1
   have e1:(r.data++[c]).length=r.data.length+1:=by simp
   have e2:octs (r.data++[c])=octs r.data++[.int .u8 c]:=by simp [octs]
   refine I8 _ (by (exact .inl O)) O ?_ ⟨sb,X,ab,cb,a1,c1,al,cl,hX,O,O⟩
   unfold rcH rcC
   dsimp only
   rw[e1,e2]
   exact J3
 ·rw[Rc.t1 h]
  refine I7 Tryz.func183 O O O O O ?_
  repeat' (first|(apply E8;first|(apply A8;refine A9 ?_)|(apply C8;refine D7 O O ?_)|(apply E5;refine F7 O O O ?_;refine F9 O ?_)|(apply F5;refine F8 O O ?_;refine F4 O ?_)|(apply D5;refine D9 O O ?_)|(apply G6;refine G7 (D8 O O) O ?_)|(apply I9;refine J7 (F6 O O) O ?_)|(apply H5;refine c_call O O O (cC _) O O ?_;rintro _ _ ⟨a1,k1,a2,k2,rfl,rfl⟩))|(apply D6)|(apply F3)|(apply A7)|(refine G5 O ?_;apply E9<;>intro hq<;>(try (exfalso;omega)))|(apply C9)|(apply H9))
  exact I8 _ (by (exact .inl O)) O (fun _ hw=>hw) ⟨sb,X,ab,cb,a1,k1,a2,k2,by rw[hcb];exact hX,O,O⟩
 ·rw[Rc.t2 h]
  refine I7 Tryz.func183 O O O O O ?_
  repeat' (first|(apply E8;first|(apply A8;refine A9 ?_)|(apply C8;refine D7 O O ?_)|(apply E5;refine F7 O O O ?_;refine F9 O ?_)|(apply F5;refine F8 O O ?_;refine F4 O ?_)|(apply D5;refine D9 O O ?_)|(apply G6;refine G7 (D8 O O) O ?_)|(apply U0;refine U6 (Q9 O O O) O ?_)|(apply AA3;refine AA8 (AC1 (k:= .i64) O O ⟨by omega,by omega⟩) O ?_)|(apply I9;refine J7 (F6 O O) O ?_)|(apply H5;refine c_call O O O (cT _) O O ?_;rintro _ _ ⟨a1,k1,a2,k2,rfl,rfl⟩)|(apply H8;refine M9 O O O O O O O ?_))|(apply D6)|(apply F3)|(apply A7)|(refine G5 O ?_;apply E9<;>intro hq<;>(try (exfalso;omega)))|(apply C9)|(apply H9))
  exact I8 _ (by (exact .inl O)) O (fun _ hw=>hw) ⟨sb,X,ab,cb,a1,k1,a2,k2,by dsimp only;rw[htb];exact hX,O,O⟩
 ·rw[Rc.t3 h]
  refine I7 Tryz.func183 O O O O O ?_
  repeat' (first|(apply E8;first|(apply A8;refine A9 ?_)|(apply C8;refine D7 O O ?_)|(apply E5;refine F7 O O O ?_;refine F9 O ?_)|(apply F5;refine F8 O O ?_;refine F4 O ?_)|(apply D5;refine D9 O O ?_)|(apply G6;refine G7 (D8 O O) O ?_)|(apply AA3;refine AA8 (AC1 (k:= .i64) O O ⟨by omega,by omega⟩) O ?_)|(apply I9;refine J7 (F6 O O) O ?_)|(apply H8;refine M9 O O O O O O O ?_))|(apply D6)|(apply F3)|(apply A7)|(refine G5 O ?_;apply E9<;>intro hq<;>(try (exfalso;omega)))|(apply C9)|(apply H9))
  exact I8 _ (by (exact .inl O)) O (fun _ hw=>hw) ⟨sb,X,ab,cb,ad,cd,al,cl,hX,O,O⟩
 ·rw[Rc.t4 h]
  by_cases h1:c=255
  ·rw[if_pos h1]
   refine I7 Tryz.func183 O O O O O ?_
   repeat' (first|(apply E8;first|(apply A8;refine A9 ?_)|(apply C8;refine D7 O O ?_)|(apply E5;refine F7 O O O ?_;refine F9 O ?_)|(apply F5;refine F8 O O ?_;refine F4 O ?_)|(apply D5;refine D9 O O ?_)|(apply G6;refine G7 (D8 O O) O ?_)|(apply I9;refine J7 (F6 O O) O ?_)|(apply H8;refine M9 O O O O O O O ?_))|(apply D6)|(apply F3)|(apply A7)|(refine G5 O ?_;apply E9<;>intro hq<;>(try (exfalso;omega)))|(apply C9)|(apply H9))
   exact I8 _ (by (exact .inl O)) O (fun _ hw=>hw) ⟨sb,X,ab,cb,ad,cd,al,cl,hX,O,O⟩
  ·rw[if_neg h1]
   refine I7 Tryz.func183 O O O O O ?_
   repeat' (first|(apply E8;first|(apply A8;refine A9 ?_)|(apply C8;refine D7 O O ?_)|(apply E5;refine F7 O O O ?_;refine F9 O ?_)|(apply F5;refine F8 O O ?_;refine F4 O ?_)|(apply D5;refine D9 O O ?_)|(apply G6;refine G7 (D8 O O) O ?_)|(apply I9;refine J7 (F6 O O) O ?_)|(apply H5;refine c_call O O O (cS _) O O ?_;rintro _ _ ⟨X1,a1,k1,hX1,rfl,rfl⟩))|(apply D6)|(apply F3)|(apply A7)|(refine G5 O ?_;apply E9<;>intro hq<;>(try (exfalso;omega)))|(apply C9)|(apply H9))
   exact I8 _ (by (exact .inl O)) O (fun _ hw=>hw) ⟨sb,X1,a1,k1,ad,cd,al,cl,hX1,O,O⟩
 ·rw[Rc.t5 h]
  by_cases h1:c=255
  ·rw[if_pos h1]
   refine I7 Tryz.func183 O O O O O ?_
   repeat' (first|(apply E8;first|(apply A8;refine A9 ?_)|(apply C8;refine D7 O O ?_)|(apply E5;refine F7 O O O ?_;refine F9 O ?_)|(apply F5;refine F8 O O ?_;refine F4 O ?_)|(apply D5;refine D9 O O ?_)|(apply G6;refine G7 (D8 O O) O ?_)|(apply I9;refine J7 (F6 O O) O ?_)|(apply H5;refine c_call O O O (cS4 _) O O ?_;rintro _ _ ⟨X1,a1,k1,hX1,rfl,rfl⟩)|(apply H8;refine M9 O O O O O O O ?_))|(apply D6)|(apply F3)|(apply A7)|(refine G5 O ?_;apply E9<;>intro hq<;>(try (exfalso;omega)))|(apply C9)|(apply H9))
   exact I8 _ (by (exact .inl O)) O (fun _ hw=>hw) ⟨sb,X1,a1,k1,ad,cd,al,cl,hX1,O,O⟩
  ·rw[if_neg h1]
   refine I7 Tryz.func183 O O O O O ?_
   repeat' (first|(apply E8;first|(apply A8;refine A9 ?_)|(apply C8;refine D7 O O ?_)|(apply E5;refine F7 O O O ?_;refine F9 O ?_)|(apply F5;refine F8 O O ?_;refine F4 O ?_)|(apply D5;refine D9 O O ?_)|(apply G6;refine G7 (D8 O O) O ?_)|(apply I9;refine J7 (F6 O O) O ?_)|(apply H5;refine c_call O O O (cE _) O O ?_;rintro _ _ ⟨sb1,X1,a0,k0,a1,k1,a2,k2,hX1,rfl,rfl⟩))|(apply D6)|(apply F3)|(apply A7)|(refine G5 O ?_;apply E9<;>intro hq<;>(try (exfalso;omega)))|(apply C9)|(apply H9))
   exact I8 _ (by (exact .inl O)) O (fun _ hw=>hw) ⟨sb1,X1,a0,k0,a1,k1,a2,k2,hX1,O,O⟩
end
abbrev wireV (m c o:Int) (d:ByteArray) (ov:Bool):Value:= .agg #[.int .i64 m,.int .i64 c,.int .i64 o,.string d,.bool ov]
def r0:Rc:=⟨0,0,0,false,[],[],[]⟩
abbrev wireR (q:Rc):Value:=wireV q.mode q.cmd q.opt (strOfNums q.buf) q.over
end Go.Proofs.YtmmnimagbnlcmaaGreatDoor
namespace Go.Fw
theorem BZ3 (r:Rc) (t:Tk):(r.tok t).data.length≤r.data.length∧(r.tok t).out.length≤r.out.length+2:=by
 unfold Rc.tok Rc.flush
 split
 ·exact⟨Nat.le_refl _,by simp⟩
 ·exact⟨Nat.zero_le _,by simp⟩
theorem Bw8 {r:Rc} (hm:0≤r.mode∧r.mode≤5) (hb:r.buf.length≤4096) (c:Int):(0≤(r.take c).mode∧(r.take c).mode≤5)∧(r.take c).buf.length≤4096∧(r.take c).data.length≤r.data.length+1∧(r.take c).out.length≤r.out.length+2:=by
 have sub:∀q:Rc,q.buf.length≤4096→(q.sub c).mode=q.mode∧(q.sub c).buf.length≤4096∧(q.sub c).data=q.data∧(q.sub c).out=q.out:=fun q hq=>by
  unfold Rc.sub
  split
  ·exact⟨O,Nat.zero_le _,O,O⟩
  ·split
   ·exact⟨O,hq,O,O⟩
   ·refine⟨O,?_,O,O⟩
    dsimp only
    rw[List.length_append,List.length_singleton];omega
 have tk:=BZ3 r
 have tb:∀t,(r.tok t).buf=r.buf:=fun t=>(A75 r t).2.2.2.2
 rcases (by omega:r.mode=0∨r.mode=1∨r.mode=2∨r.mode=3∨r.mode=4∨r.mode=5) with h|h|h|h|h|h
 ·rw[Rc.t0 h]
  split
  ·exact⟨⟨by dsimp only;omega,by dsimp only;omega⟩,hb,Nat.le_succ _,by dsimp only;omega⟩
  ·exact⟨hm,hb,by dsimp only;rw[List.length_append,List.length_singleton];exact Nat.le_refl _,by dsimp only;omega⟩
 ·rw[Rc.t1 h]
  unfold Rc.com
  split
  ·exact⟨⟨by dsimp only;omega,by dsimp only;omega⟩,hb,by dsimp only;rw[List.length_append,List.length_singleton];exact Nat.le_refl _,by dsimp only;omega⟩
  split
  ·exact⟨⟨by dsimp only;omega,by dsimp only;omega⟩,hb,Nat.le_succ _,by dsimp only;omega⟩
  split
  ·exact⟨⟨by dsimp only;omega,by dsimp only;omega⟩,hb,Nat.le_succ _,by dsimp only;omega⟩
  split
  ·exact⟨⟨by dsimp only;omega,by dsimp only;omega⟩,by dsimp only;rw[tb];exact hb,by have:=tk (2,c,0,noB);dsimp only;omega,(tk (2,c,0,noB)).2⟩
  ·exact⟨⟨by dsimp only;omega,by dsimp only;omega⟩,by dsimp only;rw[tb];exact hb,by have:=tk (5,c,0,noB);dsimp only;omega,(tk (5,c,0,noB)).2⟩
 ·rw[Rc.t2 h]
  exact⟨⟨by dsimp only;omega,by dsimp only;omega⟩,by dsimp only;rw[tb];exact hb,by have:=tk (3,r.cmd,c,noB);dsimp only;omega,(tk (3,r.cmd,c,noB)).2⟩
 ·rw[Rc.t3 h]
  exact⟨⟨by dsimp only;omega,by dsimp only;omega⟩,hb,Nat.le_succ _,by dsimp only;omega⟩
 ·rw[Rc.t4 h]
  split
  ·exact⟨⟨by dsimp only;omega,by dsimp only;omega⟩,hb,Nat.le_succ _,by dsimp only;omega⟩
  ·obtain⟨h1,h2,h3,h4⟩:=sub r hb
   exact⟨by rw[h1];exact hm,h2,by rw[h3];omega,by rw[h4];omega⟩
 ·rw[Rc.t5 h]
  split
  ·obtain⟨h1,h2,h3,h4⟩:=sub {r with mode:=4} hb
   exact⟨by rw[h1];exact⟨by dsimp only;omega,by dsimp only;omega⟩,h2,by rw[h3];exact Nat.le_succ _,by rw[h4];dsimp only;omega⟩
  ·unfold Rc.fin
   have:=tk (r.finT c)
   exact⟨⟨by dsimp only;omega,by dsimp only;omega⟩,Nat.zero_le _,by dsimp only;omega,this.2⟩
theorem Bt7 {r:Rc} (hm:0≤r.mode∧r.mode≤5) (hb:r.buf.length≤4096) (l:List Int):(0≤(l.foldl Rc.take r).mode∧(l.foldl Rc.take r).mode≤5)∧(l.foldl Rc.take r).buf.length≤4096∧(l.foldl Rc.take r).data.length≤r.data.length+l.length∧(l.foldl Rc.take r).out.length≤r.out.length+2 * l.length:=by
 induction l generalizing r with
 | nil=>exact⟨hm,hb,Nat.le_refl _,Nat.le_refl _⟩
 | cons c l ih=>
   obtain⟨h1,h2,h3,h4⟩:=Bw8 hm hb c
   obtain⟨i1,i2,i3,i4⟩:=ih h1 h2
   rw[List.foldl_cons,List.length_cons]
   exact⟨i1,i2,by omega,by omega⟩
def AG1 (m c o:Int) (z:Nat) (v:Int):Prop:=(0≤m∧m≤5)∧((m=2∧251≤c∧c≤254)∨(m≠2∧c=0))∧(((m=4∨m=5)∧0≤o∧o≤255∧z≤4096∧(v=0∨z=0))∨(m≠4∧m≠5∧o=0∧z=0∧v=0))
instance (m c o:Int) (z:Nat) (v:Int):Decidable (AG1 m c o z v):=by unfold AG1;exact inferInstance
def wireE (m c o:Int) (z:Nat) (v:Int):Int:=if AG1 m c o z v then 0 else 4
def ovI (ov:Bool):Int:=if ov=true then 1 else 0
theorem Am1 {m c o:Int} {z:Nat} {v:Int} (h:AG1 m c o z v):wireE m c o z v=0:=if_pos h
theorem Ab5 {m c o:Int} {z:Nat} {v:Int} (h:¬AG1 m c o z v):wireE m c o z v=4:=if_neg h
end Go.Fw
namespace Go.Proofs.YtmmnimagbnlcmaaGreatDoor
section
attribute [local irreducible] SW SL SQ AtQ SV SC BB LD PK Yields SO SOT SOA SY SP SPT SPA
theorem Aj0 (G:Ctx) (H:List Ent) (m c o:Int) (d:ByteArray) (ov:Bool):SV Tryz.prog G 70 [wireV m c o d ov] H (.int .i64 (wireE m c o d.size (ovI ov))):=by
 have h0:(⟨#[]⟩:ByteArray).size=0:=rfl
 have hE:ByteArray.empty=(⟨#[]⟩:ByteArray):=rfl
 by_cases hd0:d=⟨#[]⟩
 ·subst hd0
  cases ov
  ·show SV _ _ _ _ _ (.int .i64 (wireE m c o _ 0))
   refine P8 Tryz.func70 O O O O O ?_
   repeat' (first|(apply E8;first|(apply A8;refine A9 ?_)|(apply C8;refine D7 O O ?_)|(apply E5;refine F7 O O O ?_;first|(refine AB9 ?_)|(refine F9 O ?_))|(apply F5;refine F8 O O ?_;refine F4 O ?_)|(apply D5;refine D9 O O ?_)|(apply I6;refine J4 O O ?_;first|(apply P7;refine P6 O ?_)|(apply M6;refine M7 O ?_))|(apply G6;refine G7 (D8 O O) O ?_)|(apply X5;refine Z9 (Z8 O O O) O ?_)|(apply K5;refine s_call (U2 O O) O ?_)|(apply K6;refine L9 O O O O O O (fun _=>?_))|(apply I5;first|(refine J9 O O O O ?_;first|(apply I1)|(apply H7)|(apply d9)|(apply E9<;>intro hq<;>(try (exfalso;omega)))|(apply P5<;>intro hq<;>(try (exfalso;omega))))|refine o8 O O O O O O ?_))|(apply D6)|(apply G8)|(apply I4)|(apply A7)|(refine G5 O ?_;first|(apply I1)|(apply H7)|(apply E9<;>intro hq<;>(try (exfalso;omega))))|(apply C9)|(apply J8))
   all_goals (try simp only[decide_eq_true_eq,decide_eq_false_iff_not,not_true_eq_false,not_false_eq_true,and_true,and_false,true_and,false_and,hE,Bool.true_eq_false,Bool.false_eq_true] at *)
   all_goals (first|(refine N7 (by (exact .inr O)) O O0 ?_;rw[Am1 (by unfold AG1;omega)]<;>rfl)|(refine N7 (by (exact .inr O)) O O0 ?_;rw[Ab5 (by unfold AG1;omega)]<;>rfl))
  ·show SV _ _ _ _ _ (.int .i64 (wireE m c o _ 1))
   refine P8 Tryz.func70 O O O O O ?_
   repeat' (first|(apply E8;first|(apply A8;refine A9 ?_)|(apply C8;refine D7 O O ?_)|(apply E5;refine F7 O O O ?_;first|(refine AB9 ?_)|(refine F9 O ?_))|(apply F5;refine F8 O O ?_;refine F4 O ?_)|(apply D5;refine D9 O O ?_)|(apply I6;refine J4 O O ?_;first|(apply P7;refine P6 O ?_)|(apply M6;refine M7 O ?_))|(apply G6;refine G7 (D8 O O) O ?_)|(apply X5;refine Z9 (Z8 O O O) O ?_)|(apply K5;refine s_call (U2 O O) O ?_)|(apply K6;refine L9 O O O O O O (fun _=>?_))|(apply I5;first|(refine J9 O O O O ?_;first|(apply I1)|(apply H7)|(apply d9)|(apply E9<;>intro hq<;>(try (exfalso;omega)))|(apply P5<;>intro hq<;>(try (exfalso;omega))))|refine o8 O O O O O O ?_))|(apply D6)|(apply G8)|(apply I4)|(apply A7)|(refine G5 O ?_;first|(apply I1)|(apply H7)|(apply E9<;>intro hq<;>(try (exfalso;omega))))|(apply C9)|(apply J8))
   all_goals (try simp only[decide_eq_true_eq,decide_eq_false_iff_not,not_true_eq_false,not_false_eq_true,and_true,and_false,true_and,false_and,hE,Bool.true_eq_false,Bool.false_eq_true] at *)
   all_goals (first|(refine N7 (by (exact .inr O)) O O0 ?_;rw[Am1 (by unfold AG1;omega)]<;>rfl)|(refine N7 (by (exact .inr O)) O O0 ?_;rw[Ab5 (by unfold AG1;omega)]<;>rfl))
 ·have hz:0<d.size:=Nat.pos_of_ne_zero fun e=>hd0 (A08 e)
  cases ov
  ·show SV _ _ _ _ _ (.int .i64 (wireE m c o _ 0))
   refine P8 Tryz.func70 O O O O O ?_
   repeat' (first|(apply E8;first|(apply A8;refine A9 ?_)|(apply C8;refine D7 O O ?_)|(apply E5;refine F7 O O O ?_;first|(refine AB9 ?_)|(refine F9 O ?_))|(apply F5;refine F8 O O ?_;refine F4 O ?_)|(apply D5;refine D9 O O ?_)|(apply I6;refine J4 O O ?_;first|(apply P7;refine P6 O ?_)|(apply M6;refine M7 O ?_))|(apply G6;refine G7 (D8 O O) O ?_)|(apply X5;refine Z9 (Z8 O O O) O ?_)|(apply K5;refine s_call (U2 O O) O ?_)|(apply K6;refine L9 O O O O O O (fun _=>?_))|(apply I5;first|(refine J9 O O O O ?_;first|(apply I1)|(apply H7)|(apply d9)|(apply E9<;>intro hq<;>(try (exfalso;omega)))|(apply P5<;>intro hq<;>(try (exfalso;omega))))|refine o8 O O O O O O ?_))|(apply D6)|(apply G8)|(apply I4)|(apply A7)|(refine G5 O ?_;first|(apply I1)|(apply H7)|(apply E9<;>intro hq<;>(try (exfalso;omega))))|(apply C9)|(apply J8))
   all_goals (try simp only[decide_eq_true_eq,decide_eq_false_iff_not,not_true_eq_false,not_false_eq_true,and_true,and_false,true_and,false_and,hE,Bool.true_eq_false,Bool.false_eq_true,hd0] at *)
   all_goals (first|(refine N7 (by (exact .inr O)) O O0 ?_;rw[Am1 (by unfold AG1;omega)]<;>rfl)|(refine N7 (by (exact .inr O)) O O0 ?_;rw[Ab5 (by unfold AG1;omega)]<;>rfl))
  ·show SV _ _ _ _ _ (.int .i64 (wireE m c o _ 1))
   refine P8 Tryz.func70 O O O O O ?_
   repeat' (first|(apply E8;first|(apply A8;refine A9 ?_)|(apply C8;refine D7 O O ?_)|(apply E5;refine F7 O O O ?_;first|(refine AB9 ?_)|(refine F9 O ?_))|(apply F5;refine F8 O O ?_;refine F4 O ?_)|(apply D5;refine D9 O O ?_)|(apply I6;refine J4 O O ?_;first|(apply P7;refine P6 O ?_)|(apply M6;refine M7 O ?_))|(apply G6;refine G7 (D8 O O) O ?_)|(apply X5;refine Z9 (Z8 O O O) O ?_)|(apply K5;refine s_call (U2 O O) O ?_)|(apply K6;refine L9 O O O O O O (fun _=>?_))|(apply I5;first|(refine J9 O O O O ?_;first|(apply I1)|(apply H7)|(apply d9)|(apply E9<;>intro hq<;>(try (exfalso;omega)))|(apply P5<;>intro hq<;>(try (exfalso;omega))))|refine o8 O O O O O O ?_))|(apply D6)|(apply G8)|(apply I4)|(apply A7)|(refine G5 O ?_;first|(apply I1)|(apply E9<;>intro hq<;>(try (exfalso;omega)))|(apply AF5<;>intro hq))|(apply C9)|(apply J8))
   all_goals (try simp only[decide_eq_true_eq,decide_eq_false_iff_not,not_true_eq_false,not_false_eq_true,and_true,and_false,true_and,false_and,hE,Bool.true_eq_false,Bool.false_eq_true,hd0] at *)
   all_goals (refine N7 (by (exact .inr O)) O O0 ?_;rw[Ab5 (by unfold AG1;omega)]<;>rfl)
end
def feedR (m c o:Int) (d:ByteArray) (ov:Bool) (s:ByteArray):Rc:=((nums s).foldl Rc.take ⟨m,c,o,ov,nums d,[],[]⟩).flush
section
attribute [local irreducible] SW SL SQ AtQ SV SC BB LD PK Yields SO SOT SOA SY SP SPT SPA
theorem BG3 (G:Ctx) (H:List Ent) (m c o:Int) (d:ByteArray) (ov:Bool) (s:ByteArray) (he:wireE m c o d.size (ovI ov)=0) (hs:s.size≤2000000):SC Tryz.prog G 129 [wireV m c o d ov,.string s] H (fun v H'=>∃a' c',v= .tuple #[wireR (feedR m c o d ov s),.slice a' (feedR m c o d ov s).out.length c',.int .i64 0]∧H'= .own 225 4 a' (feedR m c o d ov s).out.length c' (toks (feedR m c o d ov s).out)::H):=by
 have cC:=fun H=>Aj0 G H m c o d ov
 rw[he] at cC
 have hok:AG1 m c o d.size (ovI ov):=by
  unfold wireE at he
  split at he
  ·assumption
  ·cases he
 have hdz:d.size≤4096:=by unfold AG1 at hok;omega
 have hm05:0≤m∧m≤5:=by unfold AG1 at hok;omega
 have hro:=fun i=>Bt7 (r:=⟨m,c,o,ov,nums d,[],[]⟩) hm05 (by dsimp only;rw[nums_length];exact hdz) ((nums s).take i)
 have htake:(nums s).take s.size=nums s:=by rw[←nums_length];exact List.take_length
 have hst:∀i,i<s.size→((nums s).take (i+1)).foldl Rc.take ⟨m,c,o,ov,nums d,[],[]⟩=(((nums s).take i).foldl Rc.take ⟨m,c,o,ov,nums d,[],[]⟩).take ((nums s).getD i 0):=fun i h=>by
  rw[List.take_succ_eq_append_getElem (by rw[nums_length];exact h),List.foldl_append,List.getD_eq_getElem?_getD,List.getElem?_eq_getElem (by rw[nums_length];exact h)]
  rfl
 have hz:((nums s).take 0).foldl Rc.take ⟨m,c,o,ov,nums d,[],[]⟩=⟨m,c,o,ov,nums d,[],[]⟩:=rfl
 unfold feedR
 rw[←htake]
 obtain⟨T,hT⟩:∃T:Nat→Rc,∀i,((nums s).take i).foldl Rc.take ⟨m,c,o,ov,nums d,[],[]⟩=T i:=⟨_,fun _=>rfl⟩
 simp only[hT] at *
 have Hro:=Lib.hid hro
 have Hst:=Lib.hid hst
 clear hro hst hT htake hok he
 refine I7 Tryz.func129 O O O O O ?_
 repeat' (first|(apply E8;first|(apply A8;refine A9 ?_)|(apply C8;refine D7 O O ?_)|(apply E5;refine F7 O O O ?_;refine F9 O ?_)|(apply F5;refine F8 O O ?_;first|refine F4 O ?_ |refine M5 O ?_)|(apply D5;refine D9 O O ?_)|(apply G6;refine G7 (D8 O O) O ?_)|(apply U0;refine U6 (Q9 O O O) O ?_)|(apply AA3;refine Bs1 O O O (by omega) O O (fun _ _ _ _=>?_))|(apply H5;refine H6 O O O (cC _) O O ?_)|(apply K5;refine s_call (U2 O O) O ?_)|(apply K6;refine L9 O O O O O O (fun _=>?_))|(apply O6;refine Q4 O O O O (fun _=>?_)))|(apply D6)|(apply G8)|(apply F3)|(apply A7)|(refine G5 O ?_;apply H7)|(apply C9))
 rename_i b2 b4 X0 a0 k0 hX0 b
 refine R7 (α:=Nat×ByteArray×Ent×(Option Addr×Nat)×(Option Addr×Nat)×(Option Addr×Nat)) (fun g=>[(1,.string s),(4,.pointer (some ⟨b4,0,none⟩)),(8,.pointer (some ⟨b,0,none⟩)),(23,.int .i64 s.size),(24,.int .i64 g.1)])
  (fun g=>rcH b (T g.1) g.2.1 g.2.2.1 g.2.2.2.1.1 g.2.2.2.1.2 g.2.2.2.2.1.1 g.2.2.2.2.1.2 g.2.2.2.2.2.1 g.2.2.2.2.2.2 (.blk b4 24 [.int .i64 0,.int .i64 0,.int .i64 0,.string ⟨#[]⟩,.bool false]::H))
  (fun g=>g.1≤s.size∧BufE 5 g.2.2.1 g.2.2.2.1.1 (T g.1).buf.length g.2.2.2.1.2 (T g.1).buf) (fun g=>s.size-g.1) (0,d,X0,(a0,k0),(none,0),(none,0)) ⟨Nat.zero_le _,by dsimp only;rw[hz,nums_length];exact hX0⟩ Q7 (by dsimp only;rw[hz];unfold rcH rcC;dsimp only;rw[nums_length];exact(fun _ hw=>((hw.nilrow _ _).nilrow _ _).subs (by repeat (first|refine Subs.cons (by repeat constructor) ?_ |exact Subs.sub O0)))) ?_
 rintro ⟨i,sb,X,⟨ab,cb⟩,⟨ad,cd⟩,⟨al,cl⟩⟩ ⟨hi,hX⟩
 dsimp only at hi hX ⊢
 obtain⟨h1,h2,h3,h4⟩:=Hro.out i
 rw[List.length_take,nums_length] at h3 h4
 simp only[List.length_nil,Nat.zero_add] at h3 h4
 by_cases hlt:(i:Int)<s.size
 ·have hst:=Hst.out i (by omega)
  have hb:0≤(nums s).getD i 0∧(nums s).getD i 0≤255:=by
   have hx:i<(nums s).length:=by rw[nums_length];omega
   rw[List.getD_eq_getElem?_getD,List.getElem?_eq_getElem hx]
   exact AE8 s _ (List.getElem_mem hx)
  have hx0:(nums s).getD (i:Int).toNat 0=(nums s).getD i 0:=rfl
  generalize (nums s).getD i 0=x at *
  have c1:=fun H=>Bb4 G H b (T i) x hb sb X ab cb ad cd al cl hX h1 h2 (by omega) (by omega)
  rw[←hst] at c1
  clear cC hz hst
  repeat' (first|(apply E8;first|(apply A8;refine A9 ?_)|(apply C8;refine D7 O O ?_)|(apply E5;refine F7 O O O ?_;first|(apply K9;refine L6 ⟨by omega,by omega⟩ ?_)|refine F9 O ?_)|(apply D5;refine D9 O O ?_)|(apply V5;refine Y5 (l9 hx0 O O O (by omega) (by omega)) O ?_)|(apply H5;refine c_call O O O (c1 _) O O ?_;rintro _ _ ⟨sb1,X1,a1,k1,a2,k2,a3,k3,hX1,rfl,rfl⟩))|(apply D6)|(apply G8)|(apply F3)|(apply A7)|(refine G5 O ?_;apply E9<;>intro hq<;>(try (exfalso;omega)))|(apply C9)|(apply H9))
  exact J6 (i+1,sb1,X1,(a1,k1),(a2,k2),(a3,k3)) ⟨⟨by dsimp only;omega,hX1⟩,by dsimp only;omega⟩ Q7 (fun _ hw=>hw)
 ·obtain rfl:s.size=i:=by omega
  have c1:=fun H=>Ao1 G H b (T s.size) sb X ab cb ad cd al cl (by omega)
  have hqb:(T s.size).flush.buf=(T s.size).buf:=by unfold Rc.flush;split<;>rfl
  rw[←hqb] at hX
  generalize (T s.size).flush=q at *
  haveI:=fun H=>hX.rd (G:=G) H
  repeat' (first|(apply E8;first|(apply A8;refine A9 ?_)|(apply C8;refine D7 O O ?_)|(apply E5;refine F7 O O O ?_;refine F9 O ?_)|(apply F5;refine F8 O O ?_;refine F4 O ?_)|(apply G6;refine G7 (D8 O O) O ?_)|(apply AA3;refine AA8 (AP8 (xs:=q.buf) O O O O) O ?_)|(apply I9;refine J7 (F6 O O) O ?_)|(apply H5;refine c_call O O O (c1 _) O O ?_;rintro _ _ ⟨a1,k1,a2,k2,rfl,rfl⟩)|(apply H8;refine M9 O O O O O O O ?_))|(apply D6)|(apply O7)|((fail_if_success (refine J5 (id:=12) ?_));apply A7)|(refine G5 O ?_;apply E9<;>intro hq<;>(try (exfalso;omega)))|(apply C9)|(apply K3)|(apply K4))
  refine Z6 (.blk b 268 [.int .i64 q.mode,.int .i64 q.cmd,.int .i64 q.opt,.string (strOfNums q.buf),.bool q.over,.slice ab q.buf.length cb,.slice a1 q.data.length k1,.slice a2 q.out.length k2]::H) J3 ?_
  repeat' (first|(apply E8;first|(apply A8;refine A9 ?_)|(apply H8;refine Q8 O O O O O O O O ?_))|(apply Q0;refine N8 (k:=0) J3 ?_)|(apply U3;first|(refine L8 O ?_)|(refine O4 O O O O (by kernel_rfl) (by decide+kernel) (by decide+kernel) ?_;first|(apply O1;refine G9 (P9 O O) ?_)|(apply R9;refine R6 O ?_;first|refine F4 O ?_ |refine O9 O O ?_)|(apply AA4;refine G9 (o6 O O) ?_)|(apply M3;refine G9 (D8 O O) ?_)|(apply R5;refine G9 (F6 O O) ?_))|(refine O5 O ?_)|(refine N9 (by decide+kernel) ?_)|(refine Q6 (by kernel_rfl) ?_))|(apply V3;first|(refine Q5 O)|(refine U1 (by decide+kernel) ?_)|(refine Q3 O ?_ ?_))|(apply I4)|(apply C9))
  exact AB4 (.own 225 4 a2 q.out.length k2 (toks q.out)::H) (by (exact .inr O)) O O O J3 ⟨_,_,O,O⟩
theorem Bl5 (L:List Int) (i:Nat) (h:i<L.length):escI (L.take (i+1))=escI (L.take i)++(if L.getD i 0≤3 then [2,L.getD i 0] else [L.getD i 0]):=by
 rw[List.take_succ_eq_append_getElem h,Bd2,List.getD_eq_getElem?_getD,List.getElem?_eq_getElem h]
 simp [escI]
theorem BT9 (G:Ctx) (H:List Ent) (X:List Int) (s:ByteArray) {vs:List Value} (a:Option Addr) (n c:Nat) (hv:vs=octs X) (hn:n=X.length) (hm:n≤1000000) (hs:s.size≤1000000):SC Tryz.prog G 91 [.slice a n c,.string s] (.own 5 1 a n c vs::H) (fun v H'=>∃a' c',v= .slice a' (X++escI (nums s)).length c'∧H'= .own 5 1 a' (X++escI (nums s)).length c' (octs (X++escI (nums s)))::H):=by
 subst hv hn
 refine I7 Tryz.func91 O O O O O ?_
 repeat' (first|(apply E8;first|(apply A8;refine A9 ?_)|(apply C8;refine D7 O O ?_)|(apply D5;refine D9 O O ?_)|(apply K5;refine s_call (U2 O O) O ?_))|(apply D6)|(apply F3)|(apply A7)|(apply C9))
 refine R7 (α:=Nat×Option Addr×Nat) (fun g=>[(0,.slice g.2.1 (X++escI ((nums s).take g.1)).length g.2.2),(1,.string s),(7,.int .i64 s.size),(8,.int .i64 g.1)])
  (fun g=> .own 5 1 g.2.1 (X++escI ((nums s).take g.1)).length g.2.2 (octs (X++escI ((nums s).take g.1)))::H)
  (fun g=>g.1≤s.size) (fun g=>s.size-g.1) (0,a,c) (Nat.zero_le _) (by simp only[List.take_zero,escI,List.flatMap_nil,List.append_nil];exact Q7) (by simp only[List.take_zero,escI,List.flatMap_nil,List.append_nil];exact J3) ?_
 rintro ⟨i,ao,co⟩ hi
 dsimp only at hi ⊢
 by_cases hlt:(i:Int)<s.size
 ·have b1:=B26 s i
  have hxd:(nums s).getD (i:Int).toNat 0=(nums s).getD i 0:=rfl
  have htk:=Bl5 (nums s) i (by rw[nums_length];omega)
  have hel:(escI ((nums s).take i)).length≤2 * i:=by have:=AV7 ((nums s).take i);rw[List.length_take] at this;omega
  have hbl:(X++escI ((nums s).take i)).length≤3000000:=by rw[List.length_append];omega
  generalize escI ((nums s).take i)=E at *
  generalize (nums s).getD i 0=x at *
  have Htk:=Lib.hid htk
  have Hxd:=Lib.hid hxd
  clear htk hxd
  repeat' (first|(apply E8;first|(apply A8;refine A9 ?_)|(apply C8;refine D7 O O ?_)|(apply E5;refine F7 O O O ?_;first|(apply K9;refine L6 ⟨by omega,by omega⟩ ?_)|refine F9 O ?_)|(apply D5;refine D9 O O ?_)|(apply V5;refine Y5 (l9 Hxd.out O O O (by omega) (by omega)) O ?_)|(apply K5;refine U9 O O O O (by (rfl)) (by (rfl)) (by omega) O O (fun _ _=>?_))|(apply j3;refine R8 O O O O O O O O O O (fun _=>?_)))|(apply D6)|(apply G8)|(apply F3)|(apply A7)|(refine G5 O ?_;apply E9<;>intro hq<;>(try (exfalso;omega)))|(apply C9)|(apply H9))
  ·rename_i bx1 a1 c1 bx ax cx
   have e:escI ((nums s).take (i+1))=E++[2,x]:=by rw[Htk.out,if_pos (by omega)]
   refine J6 (i+1,ax,cx) ⟨by dsimp only;omega,by dsimp only;omega⟩ ?_ ?_
   ·dsimp only
    rw[e,show (X++(E++[2,x])).length=(X++E).length+1+1 from by simp;omega]
    exact Q7
   ·dsimp only
    rw[e,show (X++(E++[2,x])).length=(X++E).length+1+1 from by simp;omega,show octs (X++(E++[2,x]))=octs (X++E)++[.int .u8 2]++[.int .u8 x] from by simp [octs]]
    exact J3
  ·rename_i bx ax cx
   have e:escI ((nums s).take (i+1))=E++[x]:=by rw[Htk.out,if_neg (by omega)]
   refine J6 (i+1,ax,cx) ⟨by dsimp only;omega,by dsimp only;omega⟩ ?_ ?_
   ·dsimp only
    rw[e,show (X++(E++[x])).length=(X++E).length+1 from by simp;omega]
    exact Q7
   ·dsimp only
    rw[e,show (X++(E++[x])).length=(X++E).length+1 from by simp;omega,show octs (X++(E++[x]))=octs (X++E)++[.int .u8 x] from by simp [octs]]
    exact J3
 ·obtain rfl:i=s.size:=by omega
  rw[show (nums s).take s.size=nums s from by rw[←nums_length];exact List.take_length]
  repeat' (first|(apply E8;first|(apply A8;refine A9 ?_)|(apply C8;refine D7 O O ?_)|(apply E5;refine F7 O O O ?_;refine F9 O ?_)|(apply D5;refine D9 O O ?_))|(apply D6)|(apply I4)|(apply O7)|(apply A7)|(refine G5 O ?_;apply E9<;>intro hq<;>(try (exfalso;omega)))|(apply C9)|(apply K3)|(apply K4))
  exact AI9 _ (.inr O) O (List.Sublist.refl _) ⟨_,_,O,O⟩
theorem A91 (G:Ctx) (H:List Ent) (v:Vr):SV Tryz.prog G 90 [vrV v] H (.bool (decide (200<v.1.size)||decide (200<v.2.1.size))):=by
 obtain⟨nm,vl,u,st⟩:=v
 show SV Tryz.prog G _ [.agg [.string nm,.string vl,.bool u,.bool st].toArray] H (.bool (decide (200<nm.size)||decide (200<vl.size)))
 refine P8 Tryz.func90 O O O O O ?_
 repeat' (first|(apply E8;first|(apply A8;refine A9 ?_)|(apply C8;refine D7 O O ?_)|(apply E5;refine F7 O O O ?_;refine F9 O ?_)|(apply F5;refine F8 O O ?_;refine F4 O ?_)|(apply D5;refine D9 O O ?_)|(apply I6;refine J4 O O ?_;first|(apply P7;refine P6 O ?_)|(apply M6;refine M7 O ?_))|(apply G6;refine G7 (D8 O O) O ?_)|(apply K5;refine s_call (U2 O O) O ?_)|(apply K6;refine L9 O O O O O O (fun _=>?_))|(apply I5;refine J9 O O O O ?_;first|(apply I1)|(apply d9)|(apply P5<;>intro hq<;>(try (exfalso;omega)))))|(apply D6)|(apply I4)|(apply A7)|(apply C9))
 all_goals first
  | (have h1:decide (200<nm.size)=true:=(decide_eq_true (by omega));refine N7 (by first|exact .inl O|exact .inr O) O O0 ?_;rw[h1];rfl)
  | (have h1:decide (200<nm.size)=false:=(decide_eq_false (by omega));refine N7 (by (exact .inr O)) O O0 ?_;rw[h1,Bool.false_or];exact congrArg Value.bool (decide_eq_decide.2 (by omega)))
theorem AQ0 (Y:List Int) (k:Int):octs Y++[.int .u8 k]=octs (Y++[k]):=by simp [octs]
theorem As8 (G:Ctx) (H:List Ent) (L:List Vr) {vs:List Value} (a:Option Addr) (n c:Nat) [h1:RdC G H a vs] (hv:vs=vrs L) (hn:n=L.length) (hm:n≤maxLen) (hl:AK4 L):SV Tryz.prog G 49 [.slice a n c] H (.tuple #[.string ⟨#[]⟩,.int .i64 2]):=by
 have cH:=An2 G H 90 [] (fun v=>decide (200<v.1.size)||decide (200<v.2.1.size)) L a n c hv hn (by rw[←hn];exact hm) (fun v _=>A91 G H v)
 unfold AK4 at hl
 have hm':n≤9223372036854775807:=hm
 rw[←hn] at hl
 generalize (L.any fun v=>decide (200<v.1.size)||decide (200<v.2.1.size))=q at *
 have Hl:=Lib.hid hl
 clear hl hn hv hm
 refine P8 Tryz.func49 O O O O O ?_
 repeat' (first|(apply E8;first|(apply A8;refine A9 ?_)|(apply C8;refine D7 O O ?_)|(apply E5;refine F7 O O O ?_;refine F9 O ?_)|(apply D5;refine D9 O O ?_)|(apply I6;refine J4 O O ?_;first|(apply P7;refine P6 O ?_)|(apply M6;refine M7 O ?_))|(apply H5;refine H6 O O O (cH) O O ?_)|(apply K5;refine s_call (S9 O O) O ?_)|(apply I5;refine J9 O O O O ?_;first|(apply I1)|(apply d9)|(apply P5<;>intro hq<;>(try (exfalso;omega)))))|(apply D6)|(apply G8)|(apply I4)|((fail_if_success (refine J5 (id:=3) ?_));apply A7)|(refine G5 O ?_;first|(apply I1)|(apply A30<;>intro hq))|(apply C9)|(apply J8))
 all_goals (first|(refine N7 (by (first|exact .inl O|exact .inr O)) O O0 ?_;rfl)|(exfalso;rcases Hl.out with h|h;omega;rw[h] at hq;cases hq))
theorem BC4 (G:Ctx) (H:List Ent) (L:List Vr) {vs:List Value} (a:Option Addr) (n c:Nat) [h1:RdC G H a vs] (hv:vs=vrs L) (hn:n=L.length) (hl:¬AK4 L):SV Tryz.prog G 49 [.slice a n c] H (.tuple #[.string (AG9 L).1,.int .i64 (AG9 L).2]):=by
 have cH:=An2 G H 90 [] (fun v=>decide (200<v.1.size)||decide (200<v.2.1.size)) L a n c hv hn (by unfold AK4 at hl;unfold maxLen;omega) (fun v _=>A91 G H v)
 have hn20:n≤20:=by unfold AK4 at hl;omega
 have hany:(L.any fun v=>decide (200<v.1.size)||decide (200<v.2.1.size))=false:=by
  rw[←Bool.not_eq_true];exact fun h=>hl (.inr h)
 have hsz:∀v∈L,v.1.size≤200∧v.2.1.size≤200:=fun v hv=>by
  refine Classical.byContradiction fun hb=>?_
  rw[List.any_eq_true.2 ⟨v,hv,by simp;omega⟩] at hany
  cases hany
 rw[hany] at cH
 have hform:=fun h=>BB7 hl h
 have hok:=fun h=>Ba3 hl h
 have hlx:vs.length=n * 4:=by rw[hv,Bv7,hn]
 have hel:∀(k:Nat) x,L[k]? =some x→take? (vs.drop ((k:Int).toNat * 4)) 4=some (vrC x):=fun k x hx=>by subst hv;exact Ah9 hx
 have hvl:∀i,i≤n→(varsI (L.take i)).length≤i * 1000:=fun i=>by
  induction i with
  | zero=>intro _;simp [varsI]
  | succ i ih=>
    intro hi
    obtain⟨x,hx⟩:=AC3 (X:=L) (k:=i) (by omega)
    have h2:=hsz x (List.mem_of_getElem? hx)
    rw[Aw9 hx,Aq3,List.length_append]
    have h3:=ih (by omega)
    have h4:(vI x).length≤1000:=by
     unfold vI
     have h5:=AV7 (nums x.1)
     have h6:=AV7 (nums x.2.1)
     rw[nums_length] at h5 h6
     repeat' split
     all_goals simp only[List.length_cons,List.length_append,List.length_nil]
     all_goals omega
    omega
 have cE:=fun (H:List Ent) (X:List Int) (s:ByteArray) (vs:List Value) (a:Option Addr) (n c:Nat) (hv:vs=octs X) (hn:n=X.length) (hm:n≤1000000) (hs:s.size≤1000000)=>BT9 G H X s a n c hv hn hm hs
 have Hn:=Lib.hid hn
 have Hel:=Lib.hid hel
 have Hsz:=Lib.hid hsz
 have Hvl:=Lib.hid hvl
 have Hform:=Lib.hid hform
 have Hok:=Lib.hid hok
 clear hel hv hn hsz hvl hform hok hl hany
 refine P8 Tryz.func49 O O O O O ?_
 repeat' (first|(apply E8;first|(apply A8;refine A9 ?_)|(apply C8;refine D7 O O ?_)|(apply E5;refine F7 O O O ?_;refine F9 O ?_)|(apply D5;refine D9 O O ?_)|(apply I6;refine J4 O O ?_;apply M6;refine M7 O ?_)|(apply H5;refine H6 O O O (cH) O O ?_)|(apply K5;refine s_call (S9 O O) O ?_)|(apply I5;refine J9 O O O O ?_;first|(apply I1)|(apply P5<;>intro hq<;>(try (exfalso;omega)))))|(apply D6)|(apply G8)|(apply F3)|(apply A7)|(refine G5 O ?_;apply H7)|(apply C9))
 refine R7 (α:=Nat×Option Addr×Nat) (fun g=>[(4,.slice g.2.1 (varsI (L.take g.1)).length g.2.2),(15,.slice a n c),(16,.int .i64 n),(17,.int .i64 g.1)])
  (fun g=> .own 5 1 g.2.1 (varsI (L.take g.1)).length g.2.2 (octs (varsI (L.take g.1)))::H)
  (fun g=>g.1≤n∧∀v∈L.take g.1,formV v=false) (fun g=>n-g.1) (0,none,0) ⟨Nat.zero_le _,fun v hv=>by simp at hv⟩ Q7 (fun _ hw=>(hw.nilrow _ _).subs (by repeat (first|refine Subs.cons (by repeat constructor) ?_ |exact Subs.sub O0))) ?_
 rintro ⟨i,ao,co⟩ ⟨hi,hf⟩
 dsimp only at hi hf ⊢
 have Hf:=Lib.hid hf
 clear hf
 by_cases hlt:(i:Int)<n
 ·obtain⟨x,hx⟩:=AC3 (X:=L) (k:=i) (by rw[←Hn.out];omega)
  have hxi:=Hel.out i x hx
  obtain⟨hs1,hs2⟩:=Hsz.out x (List.mem_of_getElem? hx)
  have hbl:=Hvl.out i hi
  have htk:varsI (L.take (i+1))=varsI (L.take i)++vI x:=by rw[Aw9 hx,Aq3]
  have hfx:formV x=true→L.any formV=true:=fun h=>List.any_eq_true.2 ⟨x,List.mem_of_getElem? hx,h⟩
  have hfn:formV x=false→∀v∈L.take (i+1),formV v=false:=fun h=>A37 hx h Hf.out
  obtain⟨nm,vl,u,st⟩:=x
  have hxi':take? (vs.drop ((i:Int).toNat * 4)) 4=some [.string nm,.string vl,.bool u,.bool st]:=hxi
  have e1:=AV7 (nums nm)
  have e2:=AV7 (nums vl)
  rw[nums_length] at e1 e2
  dsimp only at hs1 hs2
  generalize varsI (L.take i)=Y at *
  have Htk:=Lib.hid htk
  have Hfx:=Lib.hid hfx
  have Hfn:=Lib.hid hfn
  clear hxi hx htk hfx hfn
  cases u<;>cases st
  all_goals
   repeat' (first|(apply E8;first|(apply A8;refine A9 ?_)|(apply C8;refine D7 O O ?_)|(apply E5;refine F7 O O O ?_;first|(refine AM3 ?_)|(refine F9 O ?_))|(apply F5;first|(refine F8 O O ?_;refine F4 O ?_)|(refine F8 O O ?_;refine l6 hxi' O ?_))|(apply D5;refine D9 O O ?_)|(apply I6;refine J4 O O ?_;first|(apply P7;refine P6 O ?_)|(apply M6;refine M7 O ?_))|(apply G6;refine G7 (D8 O O) O ?_)|(apply X5;refine Z9 (Z8 O O O) O ?_)|(apply M4;refine M8 (K7 O O O hlx (by omega) (by omega)) O ?_)|(apply H8;refine Q8 O O O O O O O O ?_)|(apply O6;refine Q4 O O O O (fun _=>?_))|(apply I5;refine J9 O O O O ?_;first|(apply I1)|(apply H7)))|(apply D6)|(apply G8)|(apply I4)|(apply F3)|((fail_if_success (refine J5 (id:=12) ?_));apply A7)|(refine G5 O ?_;first|(apply I1)|(apply H7)|(apply E9<;>intro hq<;>(try (exfalso;omega)))|(apply AF5<;>intro hq))|(apply C9)|(apply J8)|(apply U5))
  all_goals first
   | (have hfe:=Hfx.out (show formV _=true from by simp [formV];exact of_decide_eq_false hq)
      refine N7 (by (exact .inr O)) O O0 ?_
      rw[Hform.out hfe];rfl)
   | skip
  ·have hfn':=Hfn.out (by simp [formV];exact of_decide_eq_true hq)
   rename_i b
   refine Z6 (.blk b 142 [.string nm,.string vl,.bool false,.bool false]::H) J3 ?_
   repeat' (first|(apply E8;first|(apply A8;refine A9 ?_)|(apply C8;refine D7 O O ?_)|(apply E5;refine F7 O O O ?_;apply K9;refine L6 ⟨by omega,by omega⟩ ?_)|(apply F5;refine F8 O O ?_;refine F4 O ?_)|(apply G6;refine G7 (D8 O O) O ?_)|(apply H5;refine c_call O O O (cE _ _ _ _ _ _ _ (AQ0 _ _) (by simp only[List.length_append,List.length_cons,List.length_nil]<;>omega) (by omega) (by omega)) O O ?_;rintro _ _ ⟨a2,c2,rfl,rfl⟩)|(apply K5;refine U9 O O O O (by (rfl)) (by (rfl)) (by omega) O O (fun _ _=>?_))|(apply j3;refine R8 O O O O O O O O O O (fun _=>?_)))|(apply Q0;refine N8 (k:=0) J3 ?_)|(apply U3;first|(refine L8 O ?_)|(refine O4 O O O O (by kernel_rfl) (by decide+kernel) (by decide+kernel) ?_;first|(apply O1;refine G9 (P9 O O) ?_)|(apply R9;refine R6 O ?_;refine F4 O ?_)|(apply AA4;refine G9 (o6 O O) ?_)|(apply M3;refine G9 (D8 O O) ?_))|(refine O5 O ?_)|(refine N9 (by decide+kernel) ?_)|(refine Q6 (by kernel_rfl) ?_))|(apply V3;first|(refine Q5 O)|(refine U1 (by decide+kernel) ?_)|(refine Q3 O ?_ ?_))|(apply D6)|(apply G8)|(apply A7)|(refine G5 O ?_;apply H7)|(apply C9)|(apply H9))
   have he:varsI (L.take (i+1))=(Y++[0])++escI (nums nm):=by rw[Htk.out];simp [vI]
   refine J6 (i+1,a2,c2) ⟨⟨by dsimp only;omega,hfn'⟩,by dsimp only;omega⟩ ?_ ?_
   ·dsimp only;rw[he];exact Q7
   ·dsimp only;rw[he];exact J3
  ·have hfn':=Hfn.out (by simp [formV])
   rename_i b
   refine Z6 (.blk b 142 [.string nm,.string vl,.bool false,.bool true]::H) J3 ?_
   repeat' (first|(apply E8;first|(apply A8;refine A9 ?_)|(apply F5;refine F8 O O ?_;refine F4 O ?_)|(apply G6;refine G7 (D8 O O) O ?_)|(apply H5;refine c_call O O O (cE _ _ _ _ _ _ _ (AQ0 _ _) (by simp only[List.length_append,List.length_cons,List.length_nil]<;>omega) (by (omega)) (by omega)) O O ?_;rintro _ _ ⟨a2,c2,rfl,rfl⟩)|(apply K5;refine U9 O O O O (by (rfl)) (by (rfl)) (by omega) O O (fun _ _=>?_))|(apply j3;refine R8 O O O O O O O O O O (fun _=>?_)))|(apply Q0;refine N8 (k:=0) J3 ?_)|(apply U3;first|(refine L8 O ?_)|(refine O4 O O O O (by kernel_rfl) (by decide+kernel) (by decide+kernel) ?_;first|(apply O1;refine G9 (P9 O O) ?_)|(apply R9;refine R6 O ?_;refine F4 O ?_)|(apply AA4;refine G9 (o6 O O) ?_)|(apply M3;refine G9 (D8 O O) ?_))|(refine O5 O ?_)|(refine N9 (by decide+kernel) ?_)|(refine Q6 (by kernel_rfl) ?_))|(apply V3;first|(refine Q5 O)|(refine U1 (by decide+kernel) ?_)|(refine Q3 O ?_ ?_))|(apply D6)|((fail_if_success (refine J5 (id:=14) ?_));apply A7)|(refine G5 O ?_;apply I1)|(apply C9))
   refine Z6 (.blk b 142 [.string nm,.string vl,.bool false,.bool true]::H) J3 ?_
   repeat' (first|(apply E8;first|(apply A8;refine A9 ?_)|(apply C8;refine D7 O O ?_)|(apply E5;refine F7 O O O ?_;apply K9;refine L6 ⟨by omega,by omega⟩ ?_)|(apply H5;refine c_call O O O (cE _ _ _ _ _ _ _ (AQ0 _ _) (by simp only[List.length_append,List.length_cons,List.length_nil]<;>omega) (by (simp only[List.length_append,List.length_cons,List.length_nil];omega)) (by omega)) O O ?_;rintro _ _ ⟨a2,c2,rfl,rfl⟩)|(apply K5;refine U9 O O O O O O (by simp only[List.length_append,List.length_cons,List.length_nil];omega) O O (fun _ _=>?_))|(apply j3;refine R8 O O O O O O O O O O (fun _=>?_)))|(apply Q0;refine N8 (k:=0) J3 ?_)|(apply U3;first|(refine L8 O ?_)|(refine O4 O O O O (by kernel_rfl) (by decide+kernel) (by decide+kernel) ?_;first|(apply O1;refine G9 (P9 O O) ?_)|(apply R9;refine R6 O ?_;refine F4 O ?_)|(apply AA4;refine G9 (o6 O O) ?_)|(apply M3;refine G9 (D8 O O) ?_))|(refine O5 O ?_)|(refine N9 (by decide+kernel) ?_)|(refine Q6 (by kernel_rfl) ?_))|(apply V3;first|(refine Q5 O)|(refine U1 (by decide+kernel) ?_)|(refine Q3 O ?_ ?_))|(apply A7)|(apply C9)|(apply H9))
   have he:varsI (L.take (i+1))=(((Y++[0])++escI (nums nm))++[1])++escI (nums vl):=by rw[Htk.out];simp [vI]
   refine J6 (i+1,a2,c2) ⟨⟨by dsimp only;omega,hfn'⟩,by dsimp only;omega⟩ ?_ ?_
   ·dsimp only;rw[he];exact Q7
   ·dsimp only;rw[he];exact J3
  ·have hfn':=Hfn.out (by simp [formV];exact of_decide_eq_true hq)
   rename_i b
   refine Z6 (.blk b 142 [.string nm,.string vl,.bool true,.bool false]::H) J3 ?_
   repeat' (first|(apply E8;first|(apply A8;refine A9 ?_)|(apply C8;refine D7 O O ?_)|(apply E5;refine F7 O O O ?_;apply K9;refine L6 ⟨by omega,by omega⟩ ?_)|(apply F5;refine F8 O O ?_;refine F4 O ?_)|(apply G6;refine G7 (D8 O O) O ?_)|(apply H5;refine c_call O O O (cE _ _ _ _ _ _ _ (AQ0 _ _) (by simp only[List.length_append,List.length_cons,List.length_nil]<;>omega) (by omega) (by omega)) O O ?_;rintro _ _ ⟨a2,c2,rfl,rfl⟩)|(apply K5;refine U9 O O O O (by (rfl)) (by (rfl)) (by omega) O O (fun _ _=>?_))|(apply j3;refine R8 O O O O O O O O O O (fun _=>?_)))|(apply Q0;refine N8 (k:=0) J3 ?_)|(apply U3;first|(refine L8 O ?_)|(refine O4 O O O O (by kernel_rfl) (by decide+kernel) (by decide+kernel) ?_;first|(apply O1;refine G9 (P9 O O) ?_)|(apply R9;refine R6 O ?_;refine F4 O ?_)|(apply AA4;refine G9 (o6 O O) ?_)|(apply M3;refine G9 (D8 O O) ?_))|(refine O5 O ?_)|(refine N9 (by decide+kernel) ?_)|(refine Q6 (by kernel_rfl) ?_))|(apply V3;first|(refine Q5 O)|(refine U1 (by decide+kernel) ?_)|(refine Q3 O ?_ ?_))|(apply D6)|(apply G8)|(apply A7)|(refine G5 O ?_;apply H7)|(apply C9)|(apply H9))
   have he:varsI (L.take (i+1))=(Y++[3])++escI (nums nm):=by rw[Htk.out];simp [vI]
   refine J6 (i+1,a2,c2) ⟨⟨by dsimp only;omega,hfn'⟩,by dsimp only;omega⟩ ?_ ?_
   ·dsimp only;rw[he];exact Q7
   ·dsimp only;rw[he];exact J3
  ·have hfn':=Hfn.out (by simp [formV])
   rename_i b
   refine Z6 (.blk b 142 [.string nm,.string vl,.bool true,.bool true]::H) J3 ?_
   repeat' (first|(apply E8;first|(apply A8;refine A9 ?_)|(apply F5;refine F8 O O ?_;refine F4 O ?_)|(apply G6;refine G7 (D8 O O) O ?_)|(apply H5;refine c_call O O O (cE _ _ _ _ _ _ _ (AQ0 _ _) (by simp only[List.length_append,List.length_cons,List.length_nil]<;>omega) (by (omega)) (by omega)) O O ?_;rintro _ _ ⟨a2,c2,rfl,rfl⟩)|(apply K5;refine U9 O O O O (by (rfl)) (by (rfl)) (by omega) O O (fun _ _=>?_))|(apply j3;refine R8 O O O O O O O O O O (fun _=>?_)))|(apply Q0;refine N8 (k:=0) J3 ?_)|(apply U3;first|(refine L8 O ?_)|(refine O4 O O O O (by kernel_rfl) (by decide+kernel) (by decide+kernel) ?_;first|(apply O1;refine G9 (P9 O O) ?_)|(apply R9;refine R6 O ?_;refine F4 O ?_)|(apply AA4;refine G9 (o6 O O) ?_)|(apply M3;refine G9 (D8 O O) ?_))|(refine O5 O ?_)|(refine N9 (by decide+kernel) ?_)|(refine Q6 (by kernel_rfl) ?_))|(apply V3;first|(refine Q5 O)|(refine U1 (by decide+kernel) ?_)|(refine Q3 O ?_ ?_))|(apply D6)|((fail_if_success (refine J5 (id:=14) ?_));apply A7)|(refine G5 O ?_;apply I1)|(apply C9))
   refine Z6 (.blk b 142 [.string nm,.string vl,.bool true,.bool true]::H) J3 ?_
   repeat' (first|(apply E8;first|(apply A8;refine A9 ?_)|(apply C8;refine D7 O O ?_)|(apply E5;refine F7 O O O ?_;apply K9;refine L6 ⟨by omega,by omega⟩ ?_)|(apply H5;refine c_call O O O (cE _ _ _ _ _ _ _ (AQ0 _ _) (by simp only[List.length_append,List.length_cons,List.length_nil]<;>omega) (by (simp only[List.length_append,List.length_cons,List.length_nil];omega)) (by omega)) O O ?_;rintro _ _ ⟨a2,c2,rfl,rfl⟩)|(apply K5;refine U9 O O O O O O (by simp only[List.length_append,List.length_cons,List.length_nil];omega) O O (fun _ _=>?_))|(apply j3;refine R8 O O O O O O O O O O (fun _=>?_)))|(apply Q0;refine N8 (k:=0) J3 ?_)|(apply U3;first|(refine L8 O ?_)|(refine O4 O O O O (by kernel_rfl) (by decide+kernel) (by decide+kernel) ?_;first|(apply O1;refine G9 (P9 O O) ?_)|(apply R9;refine R6 O ?_;refine F4 O ?_)|(apply AA4;refine G9 (o6 O O) ?_)|(apply M3;refine G9 (D8 O O) ?_))|(refine O5 O ?_)|(refine N9 (by decide+kernel) ?_)|(refine Q6 (by kernel_rfl) ?_))|(apply V3;first|(refine Q5 O)|(refine U1 (by decide+kernel) ?_)|(refine Q3 O ?_ ?_))|(apply A7)|(apply C9)|(apply H9))
   have he:varsI (L.take (i+1))=(((Y++[3])++escI (nums nm))++[1])++escI (nums vl):=by rw[Htk.out];simp [vI]
   refine J6 (i+1,a2,c2) ⟨⟨by dsimp only;omega,hfn'⟩,by dsimp only;omega⟩ ?_ ?_
   ·dsimp only;rw[he];exact Q7
   ·dsimp only;rw[he];exact J3
 ·obtain rfl:n=i:=by omega
  have hLt:L.take n=L:=by rw[Hn.out,List.take_length]
  rw[hLt] at Hf ⊢
  have hnf:L.any formV=false:=by
   rw[←Bool.not_eq_true,List.any_eq_true]
   rintro ⟨v,hv,h⟩
   exact Bool.noConfusion ((Hf.out v hv).symm.trans h)
  rw[Hok.out hnf]
  repeat' (first|(apply E8;first|(apply A8;refine A9 ?_)|(apply C8;refine D7 O O ?_)|(apply E5;refine F7 O O O ?_;refine F9 O ?_)|(apply D5;refine D9 O O ?_)|(apply AA3;refine AA8 (AP8 O O O O) O ?_))|(apply D6)|(apply I4)|(apply O7)|(apply A7)|(refine G5 O ?_;apply E9<;>intro hq<;>(try (exfalso;omega)))|(apply C9)|(apply K3)|(apply K4))
  refine N7 (by (exact .inr O)) O O0 ?_
  rfl
theorem Aj2 (G:Ctx) (H:List Ent) (L:List Vr) {vs:List Value} (a:Option Addr) (n c:Nat) [h1:RdC G H a vs] (hv:vs=vrs L) (hn:n=L.length) (hm:n≤maxLen):SV Tryz.prog G 49 [.slice a n c] H (.tuple #[.string (AG9 L).1,.int .i64 (AG9 L).2]):=by
 by_cases hl:AK4 L
 ·rw[A42 hl];exact As8 G H L a n c hv hn hm hl
 ·exact BC4 G H L a n c hv hn hl
end
section
attribute [local irreducible] SW SL SQ AtQ SV SC BB LD PK Yields SO SOT SOA SY SP SPT SPA negC
abbrev wkC (S N P K E:List Value):List Value:=big AL1 S (big [] N (big P K E))
abbrev cliX (buf:ByteArray) (ed:Bool):List Value:=[.int .u64 0,.int .u64 0,.int .u64 0,.int .u64 0,.string buf,.bool false,.bool ed]
theorem CA1 {S N P K E:List Value} [hS:Len S 33] [hN:Len N 520] [hK:Len K 38] {p e k:Nat} (hP:P.length=p) (hE:E.length=e) (hk:12+(33+(520+(p+(38+e))))=k):(wkC S N P K E).length=k:=by
 unfold wkC big
 simp only[List.length_append,hS.here,hN.here,hK.here,hP,hE,List.length_nil]
 subst hk
 show 12+_=_
 omega
theorem A01:okP (0,0,.empty,.empty,.empty):=
 (BQ2 _ _ _ _ _).2 ⟨⟨⟨by unfold pr3 pr2 pr1;decide+kernel,by decide,.inl rfl⟩,fun x hx=>by rw[show nums ByteArray.empty=[] from by decide+kernel] at hx;cases hx⟩,fun x hx=>by rw[show nums ByteArray.empty=[] from by decide+kernel] at hx;cases hx⟩
abbrev xterm:ByteArray:=⟨#[88,84,69,82,77]⟩
def ScS (G:Ctx) (E:List Ent) (s:Scr) (S:List Value):Prop:=∃(ga:Option Addr) (gn gc:Nat) (oa:Option Addr) (on oc:Nat) (pa:Option Addr) (pn pc:Nat) (X:List (Rx Qd)),S=scnC s ga gn gc oa on oc pa pn pc∧ScRd G E s ga gn gc oa on oc pa pn pc X
theorem ScS.len {G:Ctx} {E:List Ent} {s:Scr} {S:List Value} (h:ScS G E s S):S.length=33:=by
 obtain⟨ga,gn,gc,oa,on,oc,pa,pn,pc,X,rfl,-⟩:=h
 rfl
theorem ScS.one {G:Ctx} {E:List Ent} {s:Scr} {S:List Value} (h:ScS G E s S):S.all (·.oneCell')=true:=by
 obtain⟨ga,gn,gc,oa,on,oc,pa,pn,pc,X,rfl,-⟩:=h
 rfl
theorem ScS.mono {G:Ctx} {E E':List Ent} {s:Scr} {S:List Value} (h:ScS G E s S) (hh:∀w,Holds G E' w→Holds G E w):ScS G E' s S:=by
 obtain⟨ga,gn,gc,oa,on,oc,pa,pn,pc,X,rfl,h1⟩:=h
 exact⟨ga,gn,gc,oa,on,oc,pa,pn,pc,X,O,h1.mono hh⟩
def CliS (G:Ctx) (E:List Ent) (s:Scr) (S P:List Value):Prop:=ScS G E s S∧∃(na:Option Addr) (nc:Nat) (va:Option Addr) (vc:Nat),P=[.slice na 1 nc,.int .i64 0,.slice va 0 vc]∧RdC G E na (strs [xterm])∧CapC G E na 1 nc∧RdC G E va (vrs [])
theorem CliS.mono {G:Ctx} {E E':List Ent} {s:Scr} {S P:List Value} (h:CliS G E s S P) (hh:∀w,Holds G E' w→Holds G E w):CliS G E' s S P:=by
 obtain⟨h1,na,nc,va,vc,rfl,h2,h3,h4⟩:=h
 exact⟨h1.mono hh,na,nc,va,vc,O,⟨fun w hw=>h2.here w (hh w hw)⟩,⟨fun w hw=>h3.here w (hh w hw)⟩,⟨fun w hw=>h4.here w (hh w hw)⟩⟩
end
end Go.Proofs.YtmmnimagbnlcmaaGreatDoor
namespace Go.Sx
theorem AF1 {a N c c':List Value} {off m:Nat} {v:Value} [hN:Len N m] (h2:Nat.ble (a.length+m) off=true) (h:c.set (off-(a.length+m)) v=c'):(big a N c).set off v=big a N c':=by
 have h2:=Nat.le_of_ble_eq_true h2
 have hN:=hN.here
 subst h
 unfold big
 rw[List.set_append_right _ _ (by omega),List.set_append_right _ _ (by omega),hN,Nat.sub_sub]
theorem BM0 {a N c c' vs:List Value} {m off:Nat} [hN:Len N m] (h2:Nat.ble (a.length+m) off=true) (h:over c (off-(a.length+m)) vs=c'):over (big a N c) off vs=big a N c':=by
 have h2:=Nat.le_of_ble_eq_true h2
 have hN:=hN.here
 have e3:(a++N).length=a.length+m:=by rw[List.length_append,hN]
 subst h
 unfold over big
 rw[←List.append_assoc,List.take_append,List.take_of_length_le (by omega),List.drop_append,show (a++N).drop (off+vs.length)=[] from List.drop_eq_nil_of_le (by omega),e3,List.nil_append]
 simp only[List.append_assoc]
 congr 5
 omega
end Go.Sx
namespace Go.Proofs.YtmmnimagbnlcmaaGreatDoor
section
attribute [local irreducible] SW SL SQ AtQ SV SC BB LD PK Yields SO SOT SOA SY SP SPT SPA negC
abbrev cliW (buf:ByteArray) (ed:Bool) (sent:ByteArray):List Value:=[.int .u64 0,.int .u64 0,.int .u64 0,.int .u64 0,.string buf,.bool false,.bool ed,.string sent]
end
end Go.Proofs.YtmmnimagbnlcmaaGreatDoor
namespace Go.Sx
theorem AJ8 {P:Program} {G:Ctx} {f:FuncId} {args:List Value} {H H1:List Ent} {tb:Nat} {t:TypeId} {cs:List Value} {R:Value→List Ent→Prop} [p1:PickBlk H tb t cs H1] (h:SC P G f args (.blk tb t cs::H1) R):SC P G f args H R:=
 ⟨h.1,fun w hw=>h.2 w (hw.pick p1.here)⟩
end Go.Sx
