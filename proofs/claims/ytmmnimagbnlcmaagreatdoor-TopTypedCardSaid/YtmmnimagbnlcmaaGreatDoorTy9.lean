/- Texts of this claim, merged: Par3 Par4 ParP Par5 Par6 ParQ ParR ParS Par8 Chk4 Cli1 Neg Slc7 Neg2. -/
import Derived.Test.YtmmnimagbnlcmaaGreatDoorTy8
import Derived.WalkKit
import Derived.WalkSpells
import Derived.WalkLawsBesides
import Derived.Handy
import Derived.Lib.Hide
import Derived.Laws.BitsAllLaws
import Derived.Deep.MidRow
import Derived.Deep.WholeRow
import Derived.BigQuiet
import Derived.Laws.CopyOwn
import Derived.Deep.QuietTactic
import Derived.Laws.AppendOwnNone
import Derived.Laws.MakeOwn
import Derived.Laws.IdiomStrings
import Derived.OrdersHeld
import Derived.Lib.SliceRun
import Derived.ChangeKeysEq
import Derived.Laws.CopyRow
import Derived.Lib.AppendStr
import Derived.ArgAppend
import Derived.Test.YtmmnimagbnlcmaaGreatDoorRows
import Derived.Lib.Replace
import Derived.Lib.Join
import Derived.Lib.IndexLaws
import Derived.Lib.IndexMore
import Derived.Lib.SplitLaws
import Derived.Shelf.Strings.Builder1
import Derived.Shelf.Strings.Builder2
import Derived.Shelf.Strings.OnBuilder
import Derived.Shelf.Strings.Trim
import Derived.Shelf.Small.Utf8
import Derived.Shelf.Small.Strs
import Derived.Shelf.Strings.BuilderF
import Derived.Shelf.Strconv.Itoa0
import Derived.Shelf.Strconv.Itoa1
import Derived.Shelf.LaysM
import Derived.Shelf.Strconv.Itoa2
import Derived.Shelf.Strconv.Itoa3
import Derived.Shelf.Strings.Search1
import Derived.Shelf.Strings.Search2
import Derived.Shelf.Strings.Search3
import Derived.Shelf.Strings.Count
import Derived.Shelf.Strings.Shaped
import Derived.Shelf.Strings.LastIndex
import Derived.Shelf.Strings.Prefix
import Derived.Shelf.Strings.Split
import Derived.Shelf.Strings.Replace
import Derived.Shelf.Strings.SplitShaped
import Derived.Shelf.Strings.Runes
import Derived.Shelf.Strings.AsciiSet
import Derived.Shelf.Bits.Mul64
import Derived.Shelf.Strings.Repeat
import Derived.Shelf.Unicode.DecodeSlow
import Derived.Shelf.Unicode.DecodeAny
import Derived.Shelf.Unicode.ValidAny
import Derived.Test.YtmmnimagbnlcmaaGreatDoorProg
import Derived.Lib.Bytealg
import Derived.StillTailTactics
import Derived.RegionTactic
import Derived.ChangeAlike
import Derived.Laws.RangeAny
import Derived.Maps.RangeRun
set_option maxRecDepth 100000
set_option maxHeartbeats 8000000
open Go Go.RowKit Go.Fw Go.Sx
namespace Go.Proofs.YtmmnimagbnlcmaaGreatDoor
def putT (t:ByteArray) (x:Int):ByteArray:=if (t++strOfNums (encL [x])).size≤256 then t++strOfNums (encL [x]) else t
def textU (p:Ps) (x:Int):Ps×List Ac:=
 if x=27 then ((p.1+1,p.2),[])
 else if x=24∨x=26 then (sP 0,[dA])
 else if p.1=9 then (p,[])
 else if x=7 then (sP 0,[(5,0,0,e0,nA,p.2.2.2.2)])
 else if x<32∨(127≤x∧x≤159) then (p,[])
 else ((p.1,p.2.1,p.2.2.1,p.2.2.2.1,putT p.2.2.2.2 x),[])
section
attribute [local irreducible] SW SL SQ AtQ SV SC BB LD PK Yields SO SOT SOA SY SP SPT SPA
theorem Br0 (G:Ctx) (H:List Ent) (x:Int) (a:Option Addr) (c:Nat) [h1:RdC G H a [.int .i64 x]]:SV Tryz.prog G 17 [.slice a 1 c] H (.string (strOfNums (encL [x]))):=
 u6 (l8 Tryz.func17 rfl rfl) fun w hw=>An9 [x] a 1 c w rfl (by simp) (h1.here w hw)
theorem Bn6 (G:Ctx) (K:List Ent) (b:Nat) (s m:Int) (i g t:ByteArray) (X:List Ac) (a:Option Addr) (c:Nat) (x:Int) (hs:0≤s∧s≤10) (ht:t.size≤256) (hX:X.length≤10000000):SC Tryz.prog G 96 [.pointer (some ⟨b,0,none⟩),.int .i64 x] (mcH b (s,m,i,g,t) X a c K) (fun v H'=>∃a' c',v=resV []∧H'=mcH b (textU (s,m,i,g,t) x).1 (X++(textU (s,m,i,g,t) x).2) a' c' K):=by
 have c1:=fun K=>AK1 G K b s m i g t X a c 5 0 0 e0 nA t hX
 have c2:=fun K=>AU7 G K b s m i g t X a c 0 hX
 have c3:=fun K X a c=>AS8 G K b s m i g t X a c 0
 have c4:=fun H=>AT4 G H x 127 159
 have c5:=fun (H:List Ent) (a:Option Addr) (c:Nat) (h:RdC G H a [.int .i64 x])=>Br0 G H x a c
 have hel:=AF9 [x]
 have hcat:t.size+(strOfNums (encL [x])).size≤9223372036854775807:=by rw[strOfNums_size];simp at hel;omega
 unfold mcH at *
 dsimp only at *
 refine I7 Tryz.func96 O O O O O ?_
 repeat' (first|(apply E8;first|(apply A8;refine A9 ?_)|(apply C8;refine D7 O O ?_)|(apply E5;refine F7 O O O ?_;first|(apply K9;refine L6 ⟨by omega,by omega⟩ ?_)|refine F9 O ?_)|(apply F5;refine F8 O O ?_;refine F4 O ?_)|(apply D5;refine D9 O O ?_)|(apply I6;refine J4 O O ?_;first|(apply P7;refine P6 O ?_)|(apply M6;refine M7 O ?_))|(apply G6;refine G7 (D8 O O) O ?_)|(apply U0;refine U6 (Q9 O O O) O ?_)|(apply I9;refine J7 (F6 O O) O ?_)|(apply H5;first|(refine c_call O O O (c1 _) O O ?_;rintro _ _ ⟨a1,k1,rfl,rfl⟩)|(refine c_call O O O (c2 _) O O ?_;rintro _ _ ⟨a1,k1,rfl,rfl⟩)|(refine c_call O O O (c3 _ _ _ _) O O ?_;rintro _ _ ⟨rfl,rfl⟩)|refine H6 O O O (c4 _) O O ?_ |refine H6 O O O (c5 _ _ _ inferInstance) O O ?_)|(apply K5;refine s_call (U2 O O) O ?_)|(apply H8;refine M9 O O O O O O O ?_)|(apply j3;refine R8 O O O O O O O O O O (fun _=>?_))|(apply I5;refine J9 O O O O ?_;first|(apply I1)|(apply d9)|(apply P5<;>intro hq<;>(try (exfalso;omega)))))|(apply Q0;refine N8 (k:=0) J3 ?_)|(apply U3;first|(refine L8 O ?_)|(refine O4 O O O O (by kernel_rfl) (by decide+kernel) (by decide+kernel) ?_;first|(apply O1;refine G9 (P9 O O) ?_)|(apply AG6;refine AG7 O O ?_;refine AN9 hcat ?_)|(apply R9;refine R6 O ?_;refine F4 O ?_)|(apply AA4;refine G9 (o6 O O) ?_)|(apply M3;refine G9 (D8 O O) ?_)|(apply R5;refine G9 (F6 O O) ?_))|(refine O5 O ?_)|(refine N9 (by decide+kernel) ?_)|(refine Q6 (by kernel_rfl) ?_))|(apply V3;first|(refine Q5 O)|(refine U1 (by decide+kernel) ?_)|(refine Q3 O ?_ ?_))|(apply D6)|(apply G8)|(apply F3)|(apply A7)|(refine G5 O ?_;first|(apply I1)|(apply E9<;>intro hq<;>(try (exfalso;omega))))|(apply C9)|(apply H9)|(refine J5 (id:=0) ?_;refine Z6 _ (fun _ hw=>hw) ?_))
 all_goals first
  | (refine I8 _ (by first|exact .inl O|exact .inr O) O (fun _ hw=>hw) ?_
     unfold textU
     dsimp only
     (repeat (first|rw[if_pos (by (first|assumption|omega))]|rw[if_neg (by (first|assumption|omega))]))
     first|exact⟨_,_,O,O⟩|(rw[List.append_nil];exact⟨_,_,O,O⟩))
  | (refine I8 (.blk b 152 [.int .i64 s,.int .i64 m,.string i,.string g,.string (putT t x),.slice a X.length c]:: .own 160 6 a X.length c (acs X)::K) (by first|exact .inl O|exact .inr O) O ?_ ?_
     ·unfold putT
      (repeat (first|rw[if_pos (by (omega))]|rw[if_neg (by (omega))]))
      exact J3
     ·unfold textU
      dsimp only
      (repeat (rw[if_neg (by (first|assumption|omega))]))
      rw[List.append_nil]
      exact⟨_,_,O,O⟩)
def restU (p:Ps) (x:Int) (r:Rx Int):Ps×List Ac:=
 if x<32∨(127≤x∧x≤159) then (ctlU p x).2
 else if p.1=0 then (p,[(1,x,0,e0,nA,e0)])
 else if 160≤x then (sP 0,[dA])
 else if p.1≤2 then escU p x
 else csiU p x r
def takeU (p:Ps) (x:Int) (r:Rx Int):Ps×List Ac:=
 if x<0∨1114111<x then (p,[])
 else if p.1=7∨p.1=9 then textU p x
 else if p.1=8∨p.1=10 then
  if x=92 then (sP 0,[if p.1=8 then (5,0,0,e0,nA,p.2.2.2.2) else dA])
  else ((restU (sP 1) x r).1,dA::(restU (sP 1) x r).2)
 else restU p x r
abbrev TakeR (G:Ctx) (K:List Ent) (b:Nat) (U:Rx Int→Ps×List Ac) (X:List Ac) (g:ByteArray) (v:Value) (H':List Ent):Prop:=
 ∃a2 c2 F a' c',v=resV []∧H'=mcH b (U (a2,c2,(readA g).1)).1 (X++(U (a2,c2,(readA g).1)).2) a' c' (F++K)∧∀y∈(U (a2,c2,(readA g).1)).2,Sl ints G F y.2.2.2.2.1
theorem slP {G:Ctx} {H:List Ent} {k x:Int} {t:ByteArray}:∀y∈[((k,x,0,e0,nA,t):Ac)],Sl ints G H y.2.2.2.2.1:=fun y h=>by
 rw[List.mem_singleton] at h
 subst h
 exact Sl.nil O
theorem Bq3 (G:Ctx) (K:List Ent) (b:Nat) (s m:Int) (i g t:ByteArray) (X:List Ac) (a:Option Addr) (c:Nat) (x:Int) (hx:x<32∨(127≤x∧x≤159)) (hX:X.length≤10000000):SC Tryz.prog G 100 [.pointer (some ⟨b,0,none⟩),.int .i64 x] (mcH b (s,m,i,g,t) X a c K) (fun v H'=>∃a' c',v= .bool true∧H'=mcH b (ctlU (s,m,i,g,t) x).2.1 (X++(ctlU (s,m,i,g,t) x).2.2) a' c' K):=
 have h:(ctlU (s,m,i,g,t) x).1=true:=by
  unfold ctlU
  dsimp only
  by_cases h1:x=27
  ·rw[if_pos h1]
  by_cases h2:x=24∨x=26
  ·rw[if_neg h1,if_pos h2]
  by_cases h3:x<32
  ·rw[if_neg h1,if_neg h2,if_pos h3]
  ·rw[if_neg h1,if_neg h2,if_neg h3]
   exact decide_eq_true (by omega)
 AA7 (Aj7 G K b s m i g t X a c x hX) fun v H' ⟨a1,k1,h1,h2⟩=>⟨a1,k1,by rw[h1,h],h2⟩
theorem Bp4 (G:Ctx) (K:List Ent) (b:Nat) (s m:Int) (i g t:ByteArray) (X:List Ac) (a:Option Addr) (c:Nat) (x:Int) (hx:¬(x<32∨(127≤x∧x≤159))) (hX:X.length≤10000000):SC Tryz.prog G 100 [.pointer (some ⟨b,0,none⟩),.int .i64 x] (mcH b (s,m,i,g,t) X a c K) (fun v H'=>∃a' c',v= .bool false∧H'=mcH b (s,m,i,g,t) X a' c' K):=
 have h:ctlU (s,m,i,g,t) x=(false,(s,m,i,g,t),[]):=by
  unfold ctlU
  dsimp only
  rw[if_neg (by omega),if_neg (by omega),if_neg (by omega),decide_eq_false (by omega)]
 AA7 (Aj7 G K b s m i g t X a c x hX) fun v H' ⟨a1,k1,h1,h2⟩=>⟨a1,k1,by rw[h1,h],by rw[h2,h];dsimp only;rw[List.append_nil]⟩
theorem BT4 (G:Ctx) (K:List Ent) (M:Int) (hM:∀H w,Holds G H w→w.cell? ⟨2,0,none⟩=some (.int .i64 M)) (b:Nat) (s m:Int) (i g t:ByteArray) (X:List Ac) (a:Option Addr) (c:Nat) (x:Int) (hs:0≤s∧s≤6) (hx:0≤x∧x≤1114111) (hX:X.length≤10000000) (hg:g.size≤200):SC Tryz.prog G 55 [.pointer (some ⟨b,0,none⟩),.int .i64 x] (mcH b (s,m,i,g,t) X a c K) (TakeR G K b (takeU (s,m,i,g,t) x) X g):=by
 have hF:∀Z:Ps×List Ac,(∀r,restU (s,m,i,g,t) x r=Z)→takeU (s,m,i,g,t) x=fun _=>Z:=fun Z h=>funext fun r=>by
  unfold takeU
  dsimp only
  rw[if_neg (by omega),if_neg (by omega),if_neg (by omega),h]
 have hG:(∀r,restU (s,m,i,g,t) x r=csiU (s,m,i,g,t) x r)→takeU (s,m,i,g,t) x=csiU (s,m,i,g,t) x:=fun h=>funext fun r=>by
  unfold takeU
  dsimp only
  rw[if_neg (by omega),if_neg (by omega),if_neg (by omega),h]
 unfold restU at hF hG
 dsimp only at hF hG
 by_cases hc:x<32∨(127≤x∧x≤159)
 ·have c5:=fun K=>Bq3 G K b s m i g t X a c x hc hX
  rw[hF _ fun r=>if_pos hc]
  have hno:∀y∈(ctlU (s,m,i,g,t) x).2.2,Sl ints G [] y.2.2.2.2.1:=fun y h=>by
   have:y.2.2.2.2.1=nA:=by
    unfold ctlU at h
    dsimp only at h
    repeat' split at h
    all_goals (first|(rw[List.mem_singleton] at h;subst h;rfl)|cases h)
   rw[this]
   exact Sl.nil O
  clear hF hG
  unfold TakeR
  dsimp only
  unfold mcH at *
  dsimp only at *
  refine I7 Tryz.func55 O O O O O ?_
  repeat' (first|(apply E8;first|(apply A8;refine A9 ?_)|(apply C8;refine D7 O O ?_)|(apply E5;refine F7 O O O ?_;refine F9 O ?_)|(apply F5;refine F8 O O ?_;refine F4 O ?_)|(apply D5;refine D9 O O ?_)|(apply I6;refine J4 O O ?_;apply M6;refine M7 O ?_)|(apply G6;refine G7 (D8 O O) O ?_)|(apply I9;refine J7 (F6 O O) O ?_)|(apply H5;refine c_call O O O (c5 _) O O ?_;rintro _ _ ⟨a1,k1,rfl,rfl⟩)|(apply I5;refine J9 O O O O ?_;first|(apply I1)|(apply P5<;>intro hq<;>(try (exfalso;omega)))))|(apply D6)|(apply G8)|(apply F3)|(apply A7)|(refine G5 O ?_;first|(apply I1)|(apply E9<;>intro hq<;>(try (exfalso;omega))))|(apply C9)|(apply H9))
  all_goals (exact I8 _ (by (exact .inl O)) O (fun _ hw=>hw) ⟨none,0,[],_,_,O,O,hno⟩)
 ·have c5:=fun K=>Bp4 G K b s m i g t X a c x hc hX
  by_cases h0:s=0
  ·have c1:=fun K a c=>AK1 G K b s m i g t X a c 1 x 0 e0 nA e0 hX
   rw[hF ((s,m,i,g,t),[(1,x,0,e0,nA,e0)]) fun r=>by (repeat (first|rw[if_pos (by (assumption))]|rw[if_neg (by (assumption))]))]
   clear hF hG
   subst h0
   unfold TakeR
   dsimp only
   unfold mcH at *
   dsimp only at *
   refine I7 Tryz.func55 O O O O O ?_
   repeat' (first|(apply E8;first|(apply A8;refine A9 ?_)|(apply C8;refine D7 O O ?_)|(apply E5;refine F7 O O O ?_;refine F9 O ?_)|(apply F5;refine F8 O O ?_;refine F4 O ?_)|(apply D5;refine D9 O O ?_)|(apply I6;refine J4 O O ?_;apply M6;refine M7 O ?_)|(apply G6;refine G7 (D8 O O) O ?_)|(apply U0;refine U6 (Q9 O O O) O ?_)|(apply I9;refine J7 (F6 O O) O ?_)|(apply H5;first|(refine c_call O O O (c5 _) O O ?_;rintro _ _ ⟨a1,k1,rfl,rfl⟩)|(refine c_call O O O (c1 _ _ _) O O ?_;rintro _ _ ⟨a1,k1,rfl,rfl⟩))|(apply I5;refine J9 O O O O ?_;first|(apply I1)|(apply P5<;>intro hq<;>(try (exfalso;omega)))))|(apply D6)|(apply G8)|(apply F3)|(apply A7)|(refine G5 O ?_;first|(apply I1)|(apply H7)|(apply E9<;>intro hq<;>(try (exfalso;omega))))|(apply C9)|(apply H9))
   all_goals (exact I8 _ (by (exact .inl O)) O (fun _ hw=>hw) ⟨none,0,[],_,_,O,O,slP⟩)
  by_cases h160:160≤x
  ·have c1:=fun K a c=>AU7 G K b s m i g t X a c 0 hX
   rw[hF (sP 0,[dA]) fun r=>by (repeat (first|rw[if_pos (by (assumption))]|rw[if_neg (by (assumption))]))]
   clear hF hG
   unfold TakeR
   dsimp only
   unfold mcH at *
   dsimp only at *
   refine I7 Tryz.func55 O O O O O ?_
   repeat' (first|(apply E8;first|(apply A8;refine A9 ?_)|(apply C8;refine D7 O O ?_)|(apply E5;refine F7 O O O ?_;refine F9 O ?_)|(apply F5;refine F8 O O ?_;refine F4 O ?_)|(apply D5;refine D9 O O ?_)|(apply I6;refine J4 O O ?_;apply M6;refine M7 O ?_)|(apply G6;refine G7 (D8 O O) O ?_)|(apply I9;refine J7 (F6 O O) O ?_)|(apply H5;first|(refine c_call O O O (c5 _) O O ?_;rintro _ _ ⟨a1,k1,rfl,rfl⟩)|(refine c_call O O O (c1 _ _ _) O O ?_;rintro _ _ ⟨a1,k1,rfl,rfl⟩))|(apply I5;refine J9 O O O O ?_;first|(apply I1)|(apply P5<;>intro hq<;>(try (exfalso;omega)))))|(apply D6)|(apply G8)|(apply F3)|(apply A7)|(refine G5 O ?_;first|(apply H7)|(apply E9<;>intro hq<;>(try (exfalso;omega))))|(apply C9)|(apply H9))
   all_goals (exact I8 _ (by (exact .inl O)) O (fun _ hw=>hw) ⟨none,0,[],_,_,O,O,slD⟩)
  by_cases h2:s≤2
  ·have c1:=fun K a c=>BH7 G K b s m i g t X a c x (by omega) hX
   rw[hF (escU (s,m,i,g,t) x) fun r=>by (repeat (first|rw[if_pos (by (assumption))]|rw[if_neg (by (assumption))]))]
   have hno:∀y∈(escU (s,m,i,g,t) x).2,Sl ints G [] y.2.2.2.2.1:=fun y h=>by
    have:y.2.2.2.2.1=nA:=by
     unfold escU finA at h
     dsimp only at h
     repeat' split at h
     all_goals (first|(rw[List.mem_singleton] at h;subst h;rfl)|cases h)
    rw[this]
    exact Sl.nil O
   clear hF hG
   unfold TakeR
   dsimp only
   unfold mcH at *
   dsimp only at *
   refine I7 Tryz.func55 O O O O O ?_
   repeat' (first|(apply E8;first|(apply A8;refine A9 ?_)|(apply C8;refine D7 O O ?_)|(apply E5;refine F7 O O O ?_;refine F9 O ?_)|(apply F5;refine F8 O O ?_;refine F4 O ?_)|(apply D5;refine D9 O O ?_)|(apply I6;refine J4 O O ?_;apply M6;refine M7 O ?_)|(apply G6;refine G7 (D8 O O) O ?_)|(apply I9;refine J7 (F6 O O) O ?_)|(apply H5;first|(refine c_call O O O (c5 _) O O ?_;rintro _ _ ⟨a1,k1,rfl,rfl⟩)|(refine c_call O O O (c1 _ _ _) O O ?_;rintro _ _ ⟨a1,k1,rfl,rfl⟩))|(apply I5;refine J9 O O O O ?_;first|(apply I1)|(apply P5<;>intro hq<;>(try (exfalso;omega)))))|(apply D6)|(apply G8)|(apply F3)|(apply A7)|(refine G5 O ?_;first|(apply H7)|(apply E9<;>intro hq<;>(try (exfalso;omega))))|(apply C9)|(apply H9))
   all_goals (exact I8 _ (by (exact .inl O)) O (fun _ hw=>hw) ⟨none,0,[],_,_,O,O,hno⟩)
  ·have c1:=fun K a c=>Bz3 G K M hM b s m i g t X a c x (by omega) hX hg
   rw[hG fun r=>by (repeat (rw[if_neg (by (assumption))]))]
   clear hF hG
   unfold TakeR
   unfold mcH at *
   dsimp only at *
   refine I7 Tryz.func55 O O O O O ?_
   repeat' (first|(apply E8;first|(apply A8;refine A9 ?_)|(apply C8;refine D7 O O ?_)|(apply E5;refine F7 O O O ?_;refine F9 O ?_)|(apply F5;refine F8 O O ?_;refine F4 O ?_)|(apply D5;refine D9 O O ?_)|(apply I6;refine J4 O O ?_;apply M6;refine M7 O ?_)|(apply G6;refine G7 (D8 O O) O ?_)|(apply I9;refine J7 (F6 O O) O ?_)|(apply H5;first|(refine c_call O O O (c5 _) O O ?_;rintro _ _ ⟨a1,k1,rfl,rfl⟩)|(refine c_call O O O (c1 _ _ _) O O ?_;rintro _ _ ⟨a2,k2,F,a1,k1,rfl,rfl,hno⟩))|(apply I5;refine J9 O O O O ?_;first|(apply I1)|(apply P5<;>intro hq<;>(try (exfalso;omega)))))|(apply D6)|(apply G8)|(apply F3)|(apply A7)|(refine G5 O ?_;first|(apply H7)|(apply E9<;>intro hq<;>(try (exfalso;omega))))|(apply C9)|(apply H9))
   all_goals (exact I8 _ (by (exact .inl O)) O (fun _ hw=>hw) ⟨a2,k2,F,_,_,O,O,hno⟩)
theorem Bl0 (G:Ctx) (K:List Ent) (b:Nat) (s m:Int) (i g t:ByteArray) (X:List Ac) (a:Option Addr) (c:Nat) (x:Int) (hx:x<0∨1114111<x):SC Tryz.prog G 55 [.pointer (some ⟨b,0,none⟩),.int .i64 x] (mcH b (s,m,i,g,t) X a c K) (TakeR G K b (takeU (s,m,i,g,t) x) X g):=by
 rw[show takeU (s,m,i,g,t) x=fun _=>((s,m,i,g,t),[]) from funext fun r=>by unfold takeU;rw[if_pos hx]]
 unfold TakeR
 dsimp only
 rw[List.append_nil]
 refine I7 Tryz.func55 O O O O O ?_
 repeat' (first|(apply E8;first|(apply A8;refine A9 ?_)|(apply C8;refine D7 O O ?_)|(apply E5;refine F7 O O O ?_;refine F9 O ?_)|(apply I6;refine J4 O O ?_;first|(apply P7;refine P6 O ?_)|(apply M6;refine M7 O ?_))|(apply I5;refine J9 O O O O ?_;first|(apply I1)|(apply d9)|(apply P5<;>intro hq<;>(try (exfalso;omega)))))|(apply D6)|(apply I4)|(apply A7)|(refine G5 O ?_;first|(apply I1)|(apply E9<;>intro hq<;>(try (exfalso;omega))))|(apply C9)|(apply J8))
 all_goals (exact I8 _ (by (exact .inr O)) O (fun _ hw=>hw) ⟨none,0,[],a,c,O,O,fun _ h=>nomatch h⟩)
theorem Bc6 (G:Ctx) (K:List Ent) (b:Nat) (s m:Int) (i g t:ByteArray) (X:List Ac) (a:Option Addr) (c:Nat) (x:Int) (hs:s=7∨s=9) (hx:0≤x∧x≤1114111) (ht:t.size≤256) (hX:X.length≤10000000):SC Tryz.prog G 55 [.pointer (some ⟨b,0,none⟩),.int .i64 x] (mcH b (s,m,i,g,t) X a c K) (TakeR G K b (takeU (s,m,i,g,t) x) X g):=by
 rw[show takeU (s,m,i,g,t) x=fun _=>textU (s,m,i,g,t) x from funext fun r=>by unfold takeU;dsimp only;rw[if_neg (by omega),if_pos hs]]
 have c1:=fun K a c=>Bn6 G K b s m i g t X a c x (by omega) ht hX
 have hno:∀y∈(textU (s,m,i,g,t) x).2,Sl ints G [] y.2.2.2.2.1:=fun y h=>by
  have:y.2.2.2.2.1=nA:=by
   unfold textU at h
   dsimp only at h
   repeat' split at h
   all_goals (first|(rw[List.mem_singleton] at h;subst h;rfl)|cases h)
  rw[this]
  exact Sl.nil O
 unfold TakeR
 dsimp only
 unfold mcH at *
 dsimp only at *
 refine I7 Tryz.func55 O O O O O ?_
 repeat' (first|(apply E8;first|(apply A8;refine A9 ?_)|(apply C8;refine D7 O O ?_)|(apply E5;refine F7 O O O ?_;refine F9 O ?_)|(apply F5;refine F8 O O ?_;refine F4 O ?_)|(apply D5;refine D9 O O ?_)|(apply I6;refine J4 O O ?_;apply M6;refine M7 O ?_)|(apply G6;refine G7 (D8 O O) O ?_)|(apply I9;refine J7 (F6 O O) O ?_)|(apply H5;refine c_call O O O (c1 _ _ _) O O ?_;rintro _ _ ⟨a1,k1,rfl,rfl⟩)|(apply I5;refine J9 O O O O ?_;first|(apply I1)|(apply P5<;>intro hq<;>(try (exfalso;omega)))))|(apply D6)|(apply G8)|(apply I4)|(apply F3)|(apply A7)|(refine G5 O ?_;apply E9<;>intro hq<;>(try (exfalso;omega)))|(apply C9)|(apply J8)|(apply U5))
 all_goals (exact I8 _ (by (exact .inr O)) O (fun _ hw=>hw) ⟨none,0,[],_,_,O,O,hno⟩)
theorem Bh7 (G:Ctx) (K:List Ent) (b:Nat) (s m:Int) (i g t:ByteArray) (X:List Ac) (a:Option Addr) (c:Nat) (x:Int) (hs:s=8∨s=10) (hx:x=92) (hX:X.length≤10000000):SC Tryz.prog G 55 [.pointer (some ⟨b,0,none⟩),.int .i64 x] (mcH b (s,m,i,g,t) X a c K) (TakeR G K b (takeU (s,m,i,g,t) x) X g):=by
 rw[show takeU (s,m,i,g,t) x=fun _=>(sP 0,[if s=8 then (5,0,0,e0,nA,t) else dA]) from funext fun r=>by unfold takeU;dsimp only;rw[if_neg (by omega),if_neg (by omega),if_pos hs,if_pos hx]]
 have c1:=fun K a c=>AK1 G K b s m i g t X a c 5 0 0 e0 nA t hX
 have c2:=fun K a c=>AK1 G K b s m i g t X a c 6 0 0 e0 nA e0 hX
 have c3:=fun K X a c=>AS8 G K b s m i g t X a c 0
 unfold TakeR
 dsimp only
 unfold mcH at *
 dsimp only at *
 subst hx
 rcases hs with rfl|rfl
 ·rw[if_pos rfl]
  refine I7 Tryz.func55 O O O O O ?_
  repeat' (first|(apply E8;first|(apply A8;refine A9 ?_)|(apply C8;refine D7 O O ?_)|(apply E5;refine F7 O O O ?_;refine F9 O ?_)|(apply F5;refine F8 O O ?_;first|refine F4 O ?_ |refine M5 O ?_)|(apply D5;refine D9 O O ?_)|(apply I6;refine J4 O O ?_;apply M6;refine M7 O ?_)|(apply G6;refine G7 (D8 O O) O ?_)|(apply U0;refine U6 (Q9 O O O) O ?_)|(apply I9;refine J7 (F6 O O) O ?_)|(apply H5;first|(refine AO9 (fun _ hw=>hw.drop) ?_;refine c_call O O O (c1 _ _ _) O O ?_;rintro _ _ ⟨a1,k1,rfl,rfl⟩)|(refine c_call O O O (c3 _ _ _ _) O O ?_;rintro _ _ ⟨rfl,rfl⟩))|(apply H8;refine Q8 O O O O O O O O ?_)|(apply O6;refine Q4 O O O O (fun _=>?_))|(apply I5;refine J9 O O O O ?_;apply I1))|(apply D6)|(apply G8)|(apply I4)|(apply F3)|(apply A7)|(refine G5 O ?_;first|(apply I1)|(apply H7))|(apply C9)|(apply J8)|(apply U5))
  all_goals (exact I8 _ (by (exact .inr O)) O (fun _ hw=>hw) ⟨none,0,[],_,_,O,O,slP⟩)
 ·rw[if_neg (by omega)]
  refine I7 Tryz.func55 O O O O O ?_
  repeat' (first|(apply E8;first|(apply A8;refine A9 ?_)|(apply C8;refine D7 O O ?_)|(apply E5;refine F7 O O O ?_;refine F9 O ?_)|(apply F5;refine F8 O O ?_;first|refine F4 O ?_ |refine M5 O ?_)|(apply D5;refine D9 O O ?_)|(apply I6;refine J4 O O ?_;apply M6;refine M7 O ?_)|(apply G6;refine G7 (D8 O O) O ?_)|(apply U0;refine U6 (Q9 O O O) O ?_)|(apply I9;refine J7 (F6 O O) O ?_)|(apply H5;first|(refine AO9 (fun _ hw=>hw.drop) ?_;refine c_call O O O (c2 _ _ _) O O ?_;rintro _ _ ⟨a1,k1,rfl,rfl⟩)|(refine c_call O O O (c3 _ _ _ _) O O ?_;rintro _ _ ⟨rfl,rfl⟩))|(apply H8;refine Q8 O O O O O O O O ?_)|(apply O6;refine Q4 O O O O (fun _=>?_))|(apply I5;refine J9 O O O O ?_;apply I1))|(apply D6)|(apply G8)|(apply I4)|(apply F3)|(apply A7)|(refine G5 O ?_;first|(apply I1)|(apply H7))|(apply C9)|(apply J8)|(apply U5))
  all_goals (exact I8 _ (by (exact .inr O)) O (fun _ hw=>hw) ⟨none,0,[],_,_,O,O,slD⟩)
theorem A52 {G:Ctx} {H:List Ent} {L:List Ac} (h:∀y∈L,y.2.2.2.2.1=nA):∀y∈dA::L,Sl ints G H y.2.2.2.2.1:=fun y hy=>by
 rcases List.mem_cons.1 hy with rfl|hy
 ·exact Sl.nil O
 ·rw[h y hy]
  exact Sl.nil O
theorem Bo1 (G:Ctx) (K:List Ent) (b:Nat) (s m:Int) (i g t:ByteArray) (X:List Ac) (a:Option Addr) (c:Nat) (x:Int) (hs:s=8∨s=10) (hx:0≤x∧x≤1114111) (hx2:¬x=92) (hX:X.length≤9000000):SC Tryz.prog G 55 [.pointer (some ⟨b,0,none⟩),.int .i64 x] (mcH b (s,m,i,g,t) X a c K) (TakeR G K b (takeU (s,m,i,g,t) x) X g):=by
 have hF:∀Z:Ps×List Ac,(∀r,restU (sP 1) x r=Z)→takeU (s,m,i,g,t) x=fun _=>(Z.1,dA::Z.2):=fun Z h=>funext fun r=>by
  unfold takeU
  dsimp only
  rw[if_neg (by omega),if_neg (by omega),if_pos hs,if_neg hx2,h]
 unfold restU at hF
 dsimp only at hF
 have hXl:(X++[dA]).length≤10000000:=by rw[List.length_append];simp;omega
 have hap:∀L,X++dA::L=(X++[dA])++L:=fun L=>by simp
 have c1:=fun K a c=>AU7 G K b s m i g t X a c 1 (by omega)
 generalize hY:X++[dA]=Y at *
 by_cases hc:x<32∨(127≤x∧x≤159)
 ·have c5:=fun K a c=>Bq3 G K b 1 0 e0 e0 e0 Y a c x hc hXl
  rw[hF _ fun r=>if_pos hc]
  have hno:∀y∈(ctlU (1,0,e0,e0,e0) x).2.2,y.2.2.2.2.1=nA:=fun y h=>by
   unfold ctlU at h
   dsimp only at h
   repeat' split at h
   all_goals (first|(rw[List.mem_singleton] at h;subst h;rfl)|cases h)
  have hno:=A52 (G:=G) (H:=[]) hno
  clear hF
  unfold TakeR
  dsimp only
  rw[hap]
  unfold mcH at *
  dsimp only at *
  rcases hs with rfl|rfl
  all_goals
   refine I7 Tryz.func55 O O O O O ?_
   repeat' (first|(apply E8;first|(apply A8;refine A9 ?_)|(apply C8;refine D7 O O ?_)|(apply E5;refine F7 O O O ?_;refine F9 O ?_)|(apply F5;refine F8 O O ?_;refine F4 O ?_)|(apply D5;refine D9 O O ?_)|(apply I6;refine J4 O O ?_;apply M6;refine M7 O ?_)|(apply G6;refine G7 (D8 O O) O ?_)|(apply I9;refine J7 (F6 O O) O ?_)|(apply H5;first|(refine c_call O O O (c1 _ _ _) O O ?_;rintro _ _ ⟨a1,k1,rfl,rfl⟩)|(refine c_call O O O (c5 _ _ _) O O ?_;rintro _ _ ⟨a2,k2,rfl,rfl⟩))|(apply I5;refine J9 O O O O ?_;first|(apply I1)|(apply P5<;>intro hq<;>(try (exfalso;omega)))))|(apply D6)|(apply G8)|(apply F3)|(apply A7)|(refine G5 O ?_;first|(apply I1)|(apply H7)|(apply E9<;>intro hq<;>(try (exfalso;omega))))|(apply C9)|(apply H9))
   all_goals (exact I8 _ (by (exact .inl O)) O (fun _ hw=>hw) ⟨none,0,[],_,_,O,O,hno⟩)
 ·have c5:=fun K a c=>Bp4 G K b 1 0 e0 e0 e0 Y a c x hc hXl
  by_cases h160:160≤x
  ·have c2:=fun K a c=>AU7 G K b 1 0 e0 e0 e0 Y a c 0 hXl
   rw[hF (sP 0,[dA]) fun r=>by rw[if_neg hc,if_neg (by omega),if_pos h160]]
   clear hF
   unfold TakeR
   dsimp only
   rw[hap]
   unfold mcH at *
   dsimp only at *
   have hno:∀y∈[dA,dA],Sl ints G [] y.2.2.2.2.1:=A52 (fun y h=>by rw[List.mem_singleton] at h;subst h;rfl)
   rcases hs with rfl|rfl
   all_goals
    refine I7 Tryz.func55 O O O O O ?_
    repeat' (first|(apply E8;first|(apply A8;refine A9 ?_)|(apply C8;refine D7 O O ?_)|(apply E5;refine F7 O O O ?_;refine F9 O ?_)|(apply F5;refine F8 O O ?_;refine F4 O ?_)|(apply D5;refine D9 O O ?_)|(apply I6;refine J4 O O ?_;apply M6;refine M7 O ?_)|(apply G6;refine G7 (D8 O O) O ?_)|(apply I9;refine J7 (F6 O O) O ?_)|(apply H5;first|(refine c_call O O O (c1 _ _ _) O O ?_;rintro _ _ ⟨a1,k1,rfl,rfl⟩)|(refine c_call O O O (c5 _ _ _) O O ?_;rintro _ _ ⟨a2,k2,rfl,rfl⟩)|(refine c_call O O O (c2 _ _ _) O O ?_;rintro _ _ ⟨a3,k3,rfl,rfl⟩))|(apply I5;refine J9 O O O O ?_;first|(apply I1)|(apply P5<;>intro hq<;>(try (exfalso;omega)))))|(apply D6)|(apply G8)|(apply F3)|(apply A7)|(refine G5 O ?_;first|(apply I1)|(apply H7)|(apply E9<;>intro hq<;>(try (exfalso;omega))))|(apply C9)|(apply H9))
    all_goals (exact I8 _ (by (exact .inl O)) O (fun _ hw=>hw) ⟨none,0,[],_,_,O,O,hno⟩)
  ·have c2:=fun K a c=>BH7 G K b 1 0 e0 e0 e0 Y a c x (by omega) hXl
   rw[hF (escU (1,0,e0,e0,e0) x) fun r=>by rw[if_neg hc,if_neg (by omega),if_neg h160,if_pos (by omega)]]
   have hno:∀y∈(escU (1,0,e0,e0,e0) x).2,y.2.2.2.2.1=nA:=fun y h=>by
    unfold escU finA at h
    dsimp only at h
    repeat' split at h
    all_goals (first|(rw[List.mem_singleton] at h;subst h;rfl)|cases h)
   have hno:=A52 (G:=G) (H:=[]) hno
   clear hF
   unfold TakeR
   dsimp only
   rw[hap]
   unfold mcH at *
   dsimp only at *
   rcases hs with rfl|rfl
   all_goals
    refine I7 Tryz.func55 O O O O O ?_
    repeat' (first|(apply E8;first|(apply A8;refine A9 ?_)|(apply C8;refine D7 O O ?_)|(apply E5;refine F7 O O O ?_;refine F9 O ?_)|(apply F5;refine F8 O O ?_;refine F4 O ?_)|(apply D5;refine D9 O O ?_)|(apply I6;refine J4 O O ?_;apply M6;refine M7 O ?_)|(apply G6;refine G7 (D8 O O) O ?_)|(apply I9;refine J7 (F6 O O) O ?_)|(apply H5;first|(refine c_call O O O (c1 _ _ _) O O ?_;rintro _ _ ⟨a1,k1,rfl,rfl⟩)|(refine c_call O O O (c5 _ _ _) O O ?_;rintro _ _ ⟨a2,k2,rfl,rfl⟩)|(refine c_call O O O (c2 _ _ _) O O ?_;rintro _ _ ⟨a3,k3,rfl,rfl⟩))|(apply I5;refine J9 O O O O ?_;first|(apply I1)|(apply P5<;>intro hq<;>(try (exfalso;omega)))))|(apply D6)|(apply G8)|(apply F3)|(apply A7)|(refine G5 O ?_;first|(apply I1)|(apply H7)|(apply E9<;>intro hq<;>(try (exfalso;omega))))|(apply C9)|(apply H9))
    all_goals (exact I8 _ (by (exact .inl O)) O (fun _ hw=>hw) ⟨none,0,[],_,_,O,O,hno⟩)
theorem Bl9 (G:Ctx) (K:List Ent) (M:Int) (hM:∀H w,Holds G H w→w.cell? ⟨2,0,none⟩=some (.int .i64 M)) (b:Nat) (s m:Int) (i g t:ByteArray) (X:List Ac) (a:Option Addr) (c:Nat) (x:Int) (hs:0≤s∧s≤10) (ht:t.size≤256) (hg:g.size≤200) (hX:X.length≤9000000):SC Tryz.prog G 55 [.pointer (some ⟨b,0,none⟩),.int .i64 x] (mcH b (s,m,i,g,t) X a c K) (TakeR G K b (takeU (s,m,i,g,t) x) X g):=by
 by_cases hx:x<0∨1114111<x
 ·exact Bl0 G K b s m i g t X a c x hx
 by_cases h1:s≤6
 ·exact BT4 G K M hM b s m i g t X a c x ⟨hs.1,h1⟩ (by omega) (by omega) hg
 by_cases h2:s=7∨s=9
 ·exact Bc6 G K b s m i g t X a c x h2 (by omega) ht (by omega)
 by_cases h3:x=92
 ·exact Bh7 G K b s m i g t X a c x (by omega) h3 (by omega)
 ·exact Bo1 G K b s m i g t X a c x (by omega) (by omega) h3 hX
end
theorem AQ8 {b:ByteArray}:b=e0↔b.size=0:=⟨fun h=>by subst h;rfl,fun h=>by
 have h1:=nums_length b
 have h2:=AK0 b
 rw[List.eq_nil_of_length_eq_zero (l:=nums b) (by omega)] at h2
 exact h2.symm⟩
theorem B07 {P:Program} {K:Value→Prop} {x y:Operand} {t:TypeId} {b:ByteArray} (hk:K (.bool (decide (b.size=0)))):BB P .eql t x y (.string b) (.string ⟨#[]⟩) K:=AB9 (by
 rw[show decide (b=⟨#[]⟩)=decide (b.size=0) from decide_eq_decide.2 AQ8]
 exact hk)
theorem As3 {P:Program} {K:Value→Prop} {x y:Operand} {t:TypeId} {b:ByteArray} (hk:K (.bool (decide (0<b.size)))):BB P .neq t x y (.string b) (.string ⟨#[]⟩) K:=AM3 (by
 rw[show (!decide (b=⟨#[]⟩))=decide (0<b.size) from by
  by_cases h:b.size=0
  ·rw[decide_eq_true (AQ8.2 h),decide_eq_false (by omega)];rfl
  ·rw[decide_eq_false (fun e=>h (AQ8.1 e)),decide_eq_true (by omega)];rfl]
 exact hk)
theorem dbeq (p:Prop) [Decidable p] (a b:Int):(decide p=(a==b))↔(p↔a=b):=by
 rw[Bool.eq_iff_iff,decide_eq_true_eq,beq_iff_eq]
def inB (x:Int):Bool:=decide (32≤x∧x≤47)
def inI (i:ByteArray) (n:Int):Int:=if (nums i).all inB=true∧i.size≤n then 1 else 0
def okI (g:ByteArray):Int:=if (nums g).all okA=true then 1 else 0
def parOk (s m:Int) (i g t:ByteArray):Prop:=
 (0≤s∧s≤10)∧(m=0∨((60≤m∧m≤63)∧(s=4∨s=5)))∧inI i 3=1∧(0<i.size↔(s=2∨s=5))∧okI g=1∧g.size≤100∧(g.size=0∨s=4∨s=5)∧t.size≤256∧(t.size=0∨s=7∨s=8)
open Classical in
noncomputable def parE (s m:Int) (i g t:ByteArray):Int:=if parOk s m i g t then 0 else 4
abbrev psV (s m:Int) (i g t:ByteArray):Value:= .agg #[.int .i64 s,.int .i64 m,.string i,.string g,.string t]
theorem B22 (g:ByteArray):(readA g).2=0↔okI g=1:=by
 unfold readA okI
 split
 ·exact⟨fun _=>O,fun _=>O⟩
 ·exact⟨fun h=>absurd h (by decide),fun h=>absurd h (by decide)⟩
section
attribute [local irreducible] SW SL SQ AtQ SV SC BB LD PK Yields SO SOT SOA SY SP SPT SPA
theorem BX3 (G:Ctx) (H:List Ent) (i:ByteArray) (n:Int) (hi:i.size≤100000000):SV Tryz.prog G 95 [.string i,.int .i64 n] H (.bool (decide (inI i n=1))):=by
 have hlen:=nums_length i
 have hbd:=AE8 i
 refine R3 Tryz.func95 O O O O O ?_
 repeat' (first|(apply E8;first|(apply A8;refine A9 ?_)|(apply C8;refine D7 O O ?_)|(apply D5;refine D9 O O ?_)|(apply K5;refine s_call (U2 O O) O ?_))|(apply D6)|(apply F3)|(apply A7)|(apply C9))
 refine R7 (α:=Nat) (fun k=>[(0,.string i),(1,.int .i64 n),(7,.int .i64 i.size),(8,.int .i64 k)]) (fun _=>H) (fun k=>k≤i.size∧∀x∈(nums i).take k,inB x=true) (fun k=>i.size-k) 0 ⟨Nat.zero_le _,fun _ h=>nomatch h⟩ Q7 J3 ?_
 rintro k ⟨hk,hal⟩
 have Hal:=Lib.hid hal
 clear hal
 by_cases hlt:k<i.size
 ·obtain⟨x,hx⟩:=AC3 (X:=nums i) (k:=k) (by omega)
  have hv:(nums i).getD (k:Int).toNat 0=x:=by rw[List.getD_eq_getElem?_getD,show (k:Int).toNat=k from rfl,hx];rfl
  have hxb:=hbd x (List.mem_of_getElem? hx)
  have c1:=fun H=>AT4 G H x 32 47
  have Hx:=Lib.hid hx
  clear hx hbd
  repeat' (first|(apply E8;first|(apply A8;refine A9 ?_)|(apply C8;refine D7 O O ?_)|(apply E5;refine F7 O O O ?_;first|(apply K9;refine L6 ⟨by omega,by omega⟩ ?_)|refine F9 O ?_)|(apply D5;refine D9 O O ?_)|(apply X5;refine Z9 (Z8 O O O) O ?_)|(apply AA3;refine AA8 (AC1 (k:= .i64) O O ⟨by omega,by omega⟩) O ?_)|(apply V5;refine Y5 (l9 hv O O O (by omega) (by omega)) O ?_)|(apply H5;refine H6 O O O (c1 _) O O ?_))|(apply D6)|(apply G8)|(apply I4)|(apply F3)|(apply A7)|(refine G5 O ?_;first|(apply E9<;>intro hq<;>(try (exfalso;omega)))|(apply AF5<;>intro hq))|(apply C9)|(apply J8)|(apply H9)|(apply U5))
  all_goals simp only[decide_eq_true_eq,decide_eq_false_iff_not] at *
  ·refine N7 (by (exact .inr O)) O O0 ?_
   unfold inI
   rw[if_neg (fun h=>by
    have:=List.all_eq_true.1 h.1 x (List.mem_of_getElem? Hx.out)
    unfold inB at this
    rw[decide_eq_true_eq] at this
    omega)]
   rfl
  ·refine J6 (k+1) ⟨⟨by omega,fun y hy=>?_⟩,by omega⟩ Q7 J3
   obtain⟨h1,h2⟩:=List.getElem?_eq_some_iff.1 Hx.out
   rw[List.take_succ_eq_append_getElem h1,List.mem_append,List.mem_singleton,h2] at hy
   rcases hy with hy|rfl
   ·exact Hal.out y hy
   ·exact decide_eq_true (by omega)
 ·obtain rfl:i.size=k:=by omega
  repeat' (first|(apply E8;first|(apply A8;refine A9 ?_)|(apply C8;refine D7 O O ?_)|(apply E5;refine F7 O O O ?_;refine F9 O ?_)|(apply D5;refine D9 O O ?_)|(apply K5;refine s_call (U2 O O) O ?_))|(apply D6)|(apply I4)|(apply O7)|(apply A7)|(refine G5 O ?_;apply E9<;>intro hq<;>(try (exfalso;omega)))|(apply C9)|(apply K3)|(apply K4))
  refine N7 (by (exact .inr O)) O O0 ?_
  have hall:(nums i).all inB=true:=List.all_eq_true.2 fun x hx=>Hal.out x (by rw[List.take_of_length_le (by omega)];exact hx)
  unfold inI
  refine congrArg Value.bool (decide_eq_decide.2 ?_)
  by_cases h:(i.size:Int)≤n
  ·rw[if_pos ⟨hall,h⟩];exact⟨fun _=>O,fun _=>h⟩
  ·rw[if_neg (fun e=>h e.2)];exact⟨fun e=>absurd e h,fun e=>absurd e (by decide)⟩
theorem Aw3 (G:Ctx) (H:List Ent) (M:Int) (hM:∀H w,Holds G H w→w.cell? ⟨2,0,none⟩=some (.int .i64 M)) (s m:Int) (i g t:ByteArray) (hi:i.size≤2000000) (hg:g.size≤2000000):SV Tryz.prog G 54 [psV s m i g t] H (.int .i64 (parE s m i g t)):=by
 have c1:=fun H=>Aj3 G H M hM g hg
 have c2:=fun H n l h=>AT4 G H n l h
 have c3:=fun H=>BX3 G H i 3 (by omega)
 have hre:=B22 g
 have h0:¬parOk s m i g t→parE s m i g t=4:=fun h=>if_neg h
 have h1:parOk s m i g t→parE s m i g t=0:=fun h=>if_pos h
 unfold parOk at h0 h1
 generalize (readA g).2=e at *
 generalize inI i 3=ii at *
 generalize okI g=oi at *
 generalize parE s m i g t=E at *
 have H0:=Lib.hid h0
 have H1:=Lib.hid h1
 have HR:=Lib.hid hre
 clear h0 h1 hre
 refine P8 Tryz.func54 O O O O O ?_
 repeat' (first|(apply E8;first|(apply A8;refine A9 ?_)|(apply C8;refine D7 O O ?_)|(apply E5;refine F7 O O O ?_;first|(refine B07 ?_)|(refine As3 ?_)|(refine F9 O ?_))|(apply F5;refine F8 O O ?_;refine F4 O ?_)|(apply D5;refine D9 O O ?_)|(apply I6;refine J4 O O ?_;first|(apply P7;refine P6 O ?_)|(apply M6;refine M7 O ?_))|(apply G6;refine G7 (D8 O O) O ?_)|(apply X5;refine Z9 (Z8 O O O) O ?_)|(apply U7;refine X7 (M0 O O O) O ?_)|(apply H5;first|(refine c_call O O O (c1 _) O O ?_;rintro _ _ ⟨a2,k2,rfl,rfl⟩)|refine H6 O O O (c2 _ _ _ _) O O ?_ |refine H6 O O O (c3 _) O O ?_)|(apply K5;refine s_call (U2 O O) O ?_)|(apply K6;refine L9 O O O O O O (fun _=>?_))|(apply I5;first|(refine J9 O O O O ?_;first|(apply I1)|(apply H7)|(apply d9)|(apply E9<;>intro hq<;>(try (exfalso;omega)))|(apply P5<;>intro hq<;>(try (exfalso;omega))))|refine o8 O O O O O O ?_))|(apply D6)|(apply G8)|(apply I4)|(apply A7)|(refine G5 O ?_;first|(apply I1)|(apply H7)|(apply Y7<;>intro hq<;>(try (exfalso;omega))))|(apply C9)|(apply J8))
 all_goals
  clear c1 c2 c3 hM
  have h0:=H0.out
  have h1:=H1.out
  have hre:=HR.out
  clear H0 H1 HR
  refine N7 (by (exact .inr O)) O O0 ?_
  try simp only[dbeq,decide_eq_true_eq,decide_eq_false_iff_not] at *
  (first|rw[h1 (by omega)];rfl|rw[h0 (by omega)];rfl)
def pr1 (s m:Int):Prop:=(0≤s∧s≤10)∧(m=0∨((60≤m∧m≤63)∧(4≤s∧s≤5)))
def pr2 (s m:Int) (i:ByteArray):Prop:=pr1 s m∧i.size≤3∧(0<i.size↔(s=2∨s=5))
def pr3 (s m:Int) (i g:ByteArray):Prop:=pr2 s m i∧g.size≤100∧(g.size=0∨(4≤s∧s≤5))
def pr4 (s m:Int) (i g t:ByteArray):Prop:=pr3 s m i g∧t.size≤256∧(t.size=0∨(7≤s∧s≤8))
theorem BQ2 (s m:Int) (i g t:ByteArray):parOk s m i g t↔((pr4 s m i g t∧∀x∈nums i,inB x=true)∧∀x∈nums g,okA x=true):=by
 have h1:inI i 3=1↔((∀x∈nums i,inB x=true)∧i.size≤3):=by
  unfold inI
  rw[←List.all_eq_true]
  by_cases h:(nums i).all inB=true∧(i.size:Int)≤3
  ·rw[if_pos h];exact⟨fun _=>⟨h.1,by omega⟩,fun _=>O⟩
  ·rw[if_neg h];exact⟨fun e=>absurd e (by decide),fun e=>absurd ⟨e.1,by omega⟩ h⟩
 have h2:okI g=1↔(∀x∈nums g,okA x=true):=by
  unfold okI
  rw[←List.all_eq_true]
  by_cases h:(nums g).all okA=true
  ·rw[if_pos h];exact⟨fun _=>h,fun _=>O⟩
  ·rw[if_neg h];exact⟨fun e=>absurd e (by decide),fun e=>absurd e h⟩
 unfold parOk pr4 pr3 pr2 pr1
 rw[h1,h2]
 generalize (∀x∈nums i,inB x=true)=p
 generalize (∀x∈nums g,okA x=true)=q
 by_cases p<;>by_cases q<;>simp only[*,true_and,and_true,false_and,and_false]<;>omega
end
abbrev Pa:=Int×Int×Int×ByteArray×List Int×ByteArray
def plA (y:Ac):Pa:=(y.1,y.2.1,y.2.2.1,y.2.2.2.1,y.2.2.2.2.1.2.2,y.2.2.2.2.2)
abbrev dP:Pa:=(6,0,0,e0,[],e0)
def clsN (x:Int):Nat:=
 if x=24∨x=26 then 0 else if x=27 then 1 else if x=7 then 2 else if 0≤x∧x≤31 then 3 else if 32≤x∧x≤47 then 4
 else if x=58 then 5 else if 48≤x∧x≤59 then 6 else if 60≤x∧x≤63 then 7 else if x=91 then 8 else if x=93 then 9 else if x=92 then 10
 else if x=80∨x=88∨x=94∨x=95 then 11 else if 64≤x∧x≤126 then 12 else if 160≤x∧x≤1114111 then 14 else 13
def tabL (s:Int):List Int:=
 if s=0 then [88,69,67,67,80,80,80,80,80,80,80,80,80,46,80]
 else if s=1 then [88,69,67,67,73,70,70,70,83,79,70,84,70,46,68]
 else if s=2 then [88,69,67,67,74,70,70,70,70,70,70,70,70,46,68]
 else if s=3 then [88,69,67,67,73,71,65,77,70,70,70,70,70,46,68]
 else if s=4 then [88,69,67,67,73,71,65,71,70,70,70,70,70,46,68]
 else if s=5 then [88,69,67,67,74,71,71,71,70,70,70,70,70,46,68]
 else if s=6 then [88,69,67,67,46,46,46,46,68,68,68,68,68,46,68]
 else if s=7 then [68,90,89,46,87,87,87,87,87,87,87,87,87,46,87]
 else if s=9 then [68,90,46,46,46,46,46,46,46,46,46,46,46,46,46]
 else [82,82,82,82,82,82,82,82,82,82,89,82,82,82,82]
def whatP (s x:Int):Int:=(tabL s).getD (clsN x) 0
def whatQ (s x:Int):Int:=if s=0∧whatP s x=88 then 46 else whatP s x
def signB (x:Int):ByteArray:=if x<128 then strOfNums [x] else e0
def finP (p:Ps) (x:Int):Pa:=if p.2.2.1.size=3 then dP else if p.1<3 then (3,x,0,p.2.2.1,[],e0) else (4,x,p.2.1,p.2.2.1,(readA p.2.2.2.1).1,e0)
def rtB (x:Int):ByteArray:=strOfNums (runeL (fixR x))
def stepW (p:Ps) (x w:Int) (R:Ps×List Pa):Ps×List Pa:=
 if w=88∨w=68 then (sP 0,[dP])
 else if w=69 then (sP 1,if p.1=0 then [] else [dP])
 else if w=67 then (p,[(2,x,0,e0,[],e0)])
 else if w=80 then (p,[(1,x,0,e0,[],e0)])
 else if w=73 then ((if p.1=1 then 2 else 5,p.2.1,signB x,p.2.2.2.1,p.2.2.2.2),[])
 else if w=74 then ((p.1,p.2.1,if p.2.2.1.size<3 then p.2.2.1++signB x else p.2.2.1,p.2.2.2.1,p.2.2.2.2),[])
 else if w=65 then ((4,p.2.1,p.2.2.1,if p.2.2.2.1.size<100 then p.2.2.2.1++signB x else p.2.2.2.1,p.2.2.2.2),[])
 else if w=77 then ((4,x,e0,e0,e0),[])
 else if w=71 then (sP 6,[])
 else if w=83 then (sP 3,[])
 else if w=79 then (sP 7,[])
 else if w=84 then (sP 9,[])
 else if w=90 then ((p.1+1,p.2),[])
 else if w=87 then ((p.1,p.2.1,p.2.2.1,p.2.2.2.1,if p.2.2.2.2.size+(rtB x).size≤256 then p.2.2.2.2++rtB x else p.2.2.2.2),[])
 else if w=89 then (sP 0,[if 8<p.1 then dP else (5,0,0,e0,[],p.2.2.2.2)])
 else if w=70 then (sP 0,[finP p x])
 else if w=82 then (R.1,dP::R.2)
 else (p,[])
def step1 (x:Int):Ps×List Pa:=stepW (sP 1) x (whatQ 1 x) (sP 1,[])
def stepP (p:Ps) (x:Int):Ps×List Pa:=if x<0∨1114111<x then (p,[]) else stepW p x (whatQ p.1 x) (step1 x)
section
attribute [local irreducible] SW SL SQ AtQ SV SC BB LD PK Yields SO SOT SOA SY SP SPT SPA
theorem B62 {c:Prop} [Decidable c] {a b n:Nat} (ha:a<n) (hb:b<n):(if c then a else b)<n:=by split<;>assumption
theorem B35 (x:Int):clsN x<15:=by
 unfold clsN
 repeat' (first|apply B62|decide)
end
theorem Bs7 {c:Prop} [Decidable c] {a b:Ps×List Pa} (ha:a.2.length≤1) (hb:b.2.length≤1):(if c then a else b).2.length≤1:=by split<;>assumption
theorem BT0 (x:Int):(step1 x).2.length≤1:=by
 unfold step1 stepW
 repeat' (first|exact Nat.le_refl _|exact Nat.zero_le _|apply Bs7)
def takeP (p:Ps) (x:Int):Ps×List Pa:=((takeU p x (none,0,(readA p.2.2.2.1).1)).1,(takeU p x (none,0,(readA p.2.2.2.1).1)).2.map plA)
theorem AD7 (x:Int) (hx:0≤x∧x≤1114111):
 ((x=24∨x=26)∧clsN x=0)∨(x=27∧clsN x=1)∨(x=7∧clsN x=2)∨(((0≤x∧x≤31)∧x≠24∧x≠26∧x≠27∧x≠7)∧clsN x=3)∨((32≤x∧x≤47)∧clsN x=4)∨(x=58∧clsN x=5)
 ∨(((48≤x∧x≤59)∧x≠58)∧clsN x=6)∨((60≤x∧x≤63)∧clsN x=7)∨(x=91∧clsN x=8)∨(x=93∧clsN x=9)∨(x=92∧clsN x=10)∨((x=80∨x=88∨x=94∨x=95)∧clsN x=11)
 ∨(((64≤x∧x≤126)∧x≠91∧x≠92∧x≠93∧¬(x=80∨x=88∨x=94∨x=95))∧clsN x=12)∨((127≤x∧x≤159)∧clsN x=13)∨((160≤x∧x≤1114111)∧clsN x=14):=by
 obtain⟨n,hn⟩:∃n,clsN x=n:=⟨_,rfl⟩
 rw[hn]
 unfold clsN at hn
 by_cases h0:x=24∨x=26
 ·rw[if_pos h0] at hn
  exact .inl ⟨by omega,hn.symm⟩
 rw[if_neg h0] at hn
 by_cases h1:x=27
 ·rw[if_pos h1] at hn
  exact .inr (.inl ⟨by omega,hn.symm⟩)
 rw[if_neg h1] at hn
 by_cases h2:x=7
 ·rw[if_pos h2] at hn
  exact .inr (.inr (.inl ⟨by omega,hn.symm⟩))
 rw[if_neg h2] at hn
 by_cases h3:0≤x∧x≤31
 ·rw[if_pos h3] at hn
  exact .inr (.inr (.inr (.inl ⟨by omega,hn.symm⟩)))
 rw[if_neg h3] at hn
 by_cases h4:32≤x∧x≤47
 ·rw[if_pos h4] at hn
  exact .inr (.inr (.inr (.inr (.inl ⟨by omega,hn.symm⟩))))
 rw[if_neg h4] at hn
 by_cases h5:x=58
 ·rw[if_pos h5] at hn
  exact .inr (.inr (.inr (.inr (.inr (.inl ⟨by omega,hn.symm⟩)))))
 rw[if_neg h5] at hn
 by_cases h6:48≤x∧x≤59
 ·rw[if_pos h6] at hn
  exact .inr (.inr (.inr (.inr (.inr (.inr (.inl ⟨by omega,hn.symm⟩))))))
 rw[if_neg h6] at hn
 by_cases h7:60≤x∧x≤63
 ·rw[if_pos h7] at hn
  exact .inr (.inr (.inr (.inr (.inr (.inr (.inr (.inl ⟨by omega,hn.symm⟩)))))))
 rw[if_neg h7] at hn
 by_cases h8:x=91
 ·rw[if_pos h8] at hn
  exact .inr (.inr (.inr (.inr (.inr (.inr (.inr (.inr (.inl ⟨by omega,hn.symm⟩))))))))
 rw[if_neg h8] at hn
 by_cases h9:x=93
 ·rw[if_pos h9] at hn
  exact .inr (.inr (.inr (.inr (.inr (.inr (.inr (.inr (.inr (.inl ⟨by omega,hn.symm⟩)))))))))
 rw[if_neg h9] at hn
 by_cases h10:x=92
 ·rw[if_pos h10] at hn
  exact .inr (.inr (.inr (.inr (.inr (.inr (.inr (.inr (.inr (.inr (.inl ⟨by omega,hn.symm⟩))))))))))
 rw[if_neg h10] at hn
 by_cases h11:x=80∨x=88∨x=94∨x=95
 ·rw[if_pos h11] at hn
  exact .inr (.inr (.inr (.inr (.inr (.inr (.inr (.inr (.inr (.inr (.inr (.inl ⟨by omega,hn.symm⟩)))))))))))
 rw[if_neg h11] at hn
 by_cases h12:64≤x∧x≤126
 ·rw[if_pos h12] at hn
  exact .inr (.inr (.inr (.inr (.inr (.inr (.inr (.inr (.inr (.inr (.inr (.inr (.inl ⟨by omega,hn.symm⟩))))))))))))
 rw[if_neg h12] at hn
 by_cases h13:160≤x∧x≤1114111
 ·rw[if_pos h13] at hn
  exact .inr (.inr (.inr (.inr (.inr (.inr (.inr (.inr (.inr (.inr (.inr (.inr (.inr (.inr (⟨by omega,hn.symm⟩))))))))))))))
 rw[if_neg h13] at hn
 exact .inr (.inr (.inr (.inr (.inr (.inr (.inr (.inr (.inr (.inr (.inr (.inr (.inr (.inl ⟨by omega,hn.symm⟩)))))))))))))
theorem Bz9 (x:Int) (hx:0≤x∧x≤1114111):takeP (sP 0) x=stepP (sP 0) x:=by
 have hc:=AD7 x hx
 rcases hc with h|h|h|h|h|h|h|h|h|h|h|h|h|h|h
 all_goals
  obtain⟨h,hN⟩:=h
  unfold stepP takeP takeU restU ctlU escU csiU textU
  rw[show whatQ (sP 0).1 x=_ from by unfold whatQ whatP;rw[hN]]
  unfold stepW
  dsimp only
  (repeat (first|rw[if_pos (by (first|assumption|omega))]|rw[if_neg (by (omega))]))
  (rfl)
theorem BW3 (s:ByteArray):e0++s=s:=by apply ByteArray.ext;simp
theorem AY2 (x:Int):moreU e0 x=strOfNums [x]:=by unfold moreU;rw[if_pos (by decide),BW3]
theorem B98 (x:Int):argU e0 x=strOfNums [x]:=by unfold argU;rw[if_pos (by decide),BW3]
theorem AP1 (x:Int) (h:x<128):signB x=strOfNums [x]:=if_pos h
theorem CF7 (i:ByteArray) (x:Int):plA (finA i (3,x,0,i,nA,e0))=finP (2,0,i,e0,e0) x:=by
 unfold finA finP
 dsimp only
 by_cases h:i.size=3
 ·rw[if_pos h,if_pos h];rfl
 ·rw[if_neg h,if_neg h,if_pos (by omega)];rfl
theorem CF5 (m x:Int) (i g:ByteArray):plA (finA i (4,x,m,i,(none,0,(readA g).1),e0))=finP (5,m,i,g,e0) x:=by
 unfold finA finP
 dsimp only
 by_cases h:i.size=3
 ·rw[if_pos h,if_pos h];rfl
 ·rw[if_neg h,if_neg h,if_neg (by omega)];rfl
theorem CF4 (t:ByteArray) (x:Int):putT t x=if t.size+(rtB x).size≤256 then t++rtB x else t:=by
 have h:strOfNums (encL [x])=rtB x:=by unfold rtB encL;simp
 unfold putT
 rw[h,ByteArray.size_append]
theorem Bv0 (x:Int) (hx:0≤x∧x≤1114111):takeP (sP 1) x=stepP (sP 1) x:=by
 have hc:=AD7 x hx
 rcases hc with h|h|h|h|h|h|h|h|h|h|h|h|h|h|h
 all_goals
  obtain⟨h,hN⟩:=h
  unfold stepP takeP takeU restU ctlU escU csiU textU
  (rw[show whatQ (sP 1).1 x=_ from by unfold whatQ whatP;rw[hN]])
  (skip)
  unfold stepW
  dsimp only
  (repeat (first|rw[if_pos (by (first|assumption|omega))]|rw[if_neg (by (omega))]))
  (first|rfl|(rw[AY2,AP1 x (by omega)];rfl))
theorem Bt5 (x:Int) (hx:0≤x∧x≤1114111):takeP (sP 3) x=stepP (sP 3) x:=by
 have hc:=AD7 x hx
 rcases hc with h|h|h|h|h|h|h|h|h|h|h|h|h|h|h
 all_goals
  obtain⟨h,hN⟩:=h
  unfold stepP takeP takeU restU ctlU escU csiU textU
  (rw[show whatQ (sP 3).1 x=_ from by unfold whatQ whatP;rw[hN]])
  (skip)
  unfold stepW
  dsimp only
  (repeat (first|rw[if_pos (by (first|assumption|omega))]|rw[if_neg (by (omega))]))
  (first|rfl|(rw[AY2,AP1 x (by omega)];rfl)|(rw[B98,AP1 x (by omega)];rfl))
theorem B31 (x:Int) (hx:0≤x∧x≤1114111):takeP (sP 6) x=stepP (sP 6) x:=by
 have hc:=AD7 x hx
 rcases hc with h|h|h|h|h|h|h|h|h|h|h|h|h|h|h
 all_goals
  obtain⟨h,hN⟩:=h
  unfold stepP takeP takeU restU ctlU escU csiU textU
  (rw[show whatQ (sP 6).1 x=_ from by unfold whatQ whatP;rw[hN]])
  (skip)
  unfold stepW
  dsimp only
  (repeat (first|rw[if_pos (by (first|assumption|omega))]|rw[if_neg (by (omega))]))
  (rfl)
theorem B24 (x:Int) (hx:0≤x∧x≤1114111):takeP (sP 9) x=stepP (sP 9) x:=by
 have hc:=AD7 x hx
 rcases hc with h|h|h|h|h|h|h|h|h|h|h|h|h|h|h
 all_goals
  obtain⟨h,hN⟩:=h
  unfold stepP takeP takeU restU ctlU escU csiU textU
  (rw[show whatQ (sP 9).1 x=_ from by unfold whatQ whatP;rw[hN]])
  (skip)
  unfold stepW
  dsimp only
  (repeat (first|rw[if_pos (by (first|assumption|omega))]|rw[if_neg (by (omega))]))
  (rfl)
theorem Bm9 (x:Int) (hx:0≤x∧x≤1114111):takeP (sP 10) x=stepP (sP 10) x:=by
 have hc:=AD7 x hx
 rcases hc with h|h|h|h|h|h|h|h|h|h|h|h|h|h|h
 all_goals
  obtain⟨h,hN⟩:=h
  unfold stepP takeP takeU restU ctlU escU csiU textU
  (first|rw[show whatQ (sP 10).1 x=82 from by unfold whatQ whatP;rw[hN];rfl]|rw[show whatQ (sP 10).1 x=89 from by unfold whatQ whatP;rw[hN];rfl])
  (first|rw[show step1 x=stepW (sP 1) x 82 (sP 1,[]) from by unfold step1 whatQ whatP;rw[hN];rfl]|rw[show step1 x=stepW (sP 1) x 88 (sP 1,[]) from by unfold step1 whatQ whatP;rw[hN];rfl]|rw[show step1 x=stepW (sP 1) x 67 (sP 1,[]) from by unfold step1 whatQ whatP;rw[hN];rfl]|rw[show step1 x=stepW (sP 1) x 73 (sP 1,[]) from by unfold step1 whatQ whatP;rw[hN];rfl]|rw[show step1 x=stepW (sP 1) x 70 (sP 1,[]) from by unfold step1 whatQ whatP;rw[hN];rfl]|rw[show step1 x=stepW (sP 1) x 83 (sP 1,[]) from by unfold step1 whatQ whatP;rw[hN];rfl]|rw[show step1 x=stepW (sP 1) x 79 (sP 1,[]) from by unfold step1 whatQ whatP;rw[hN];rfl]|rw[show step1 x=stepW (sP 1) x 84 (sP 1,[]) from by unfold step1 whatQ whatP;rw[hN];rfl]|rw[show step1 x=stepW (sP 1) x 46 (sP 1,[]) from by unfold step1 whatQ whatP;rw[hN];rfl])
  unfold stepW
  dsimp only
  (repeat (first|rw[if_pos (by (first|assumption|omega))]|rw[if_neg (by (omega))]))
  (first|rfl|(rw[AY2,AP1 x (by omega)];rfl))
theorem B05 (i:ByteArray) (x:Int) (hx:0≤x∧x≤1114111):takeP ((2,0,i,e0,e0):Ps) x=stepP ((2,0,i,e0,e0):Ps) x:=by
 have hc:=AD7 x hx
 rcases hc with h|h|h|h|h|h|h|h|h|h|h|h|h|h|h
 all_goals
  obtain⟨h,hN⟩:=h
  unfold stepP takeP takeU restU ctlU escU csiU textU
  (first|rw[show whatQ ((2,0,i,e0,e0):Ps).1 x=88 from by unfold whatQ whatP;rw[hN];rfl]|rw[show whatQ ((2,0,i,e0,e0):Ps).1 x=69 from by unfold whatQ whatP;rw[hN];rfl]|rw[show whatQ ((2,0,i,e0,e0):Ps).1 x=67 from by unfold whatQ whatP;rw[hN];rfl]|rw[show whatQ ((2,0,i,e0,e0):Ps).1 x=70 from by unfold whatQ whatP;rw[hN];rfl]|rw[show whatQ ((2,0,i,e0,e0):Ps).1 x=46 from by unfold whatQ whatP;rw[hN];rfl]|rw[show whatQ ((2,0,i,e0,e0):Ps).1 x=68 from by unfold whatQ whatP;rw[hN];rfl]|rw[show whatQ ((2,0,i,e0,e0):Ps).1 x=74 from by unfold whatQ whatP;rw[hN];rfl])
  (skip)
  unfold stepW
  dsimp only
  (repeat (first|rw[if_pos (by (first|assumption|omega))]|rw[if_neg (by (omega))]))
  (first|rfl|(rw[List.map_cons,CF7];rfl)|(rw[AP1 x (by omega)];rfl))
theorem Bu0 (m:Int) (g:ByteArray) (x:Int) (hx:0≤x∧x≤1114111):takeP ((4,m,e0,g,e0):Ps) x=stepP ((4,m,e0,g,e0):Ps) x:=by
 have hc:=AD7 x hx
 rcases hc with h|h|h|h|h|h|h|h|h|h|h|h|h|h|h
 all_goals
  obtain⟨h,hN⟩:=h
  unfold stepP takeP takeU restU ctlU escU csiU textU
  (rw[show whatQ ((4,m,e0,g,e0):Ps).1 x=_ from by unfold whatQ whatP;rw[hN]])
  (skip)
  unfold stepW
  dsimp only
  (repeat (first|rw[if_pos (by (first|assumption|omega))]|rw[if_neg (by (omega))]))
  (first|rfl|(rw[AY2,AP1 x (by omega)];rfl)|(rw[AP1 x (by omega)];rfl))
theorem Bw1 (m:Int) (i g:ByteArray) (x:Int) (hx:0≤x∧x≤1114111):takeP ((5,m,i,g,e0):Ps) x=stepP ((5,m,i,g,e0):Ps) x:=by
 have hc:=AD7 x hx
 rcases hc with h|h|h|h|h|h|h|h|h|h|h|h|h|h|h
 all_goals
  obtain⟨h,hN⟩:=h
  unfold stepP takeP takeU restU ctlU escU csiU textU
  (first|rw[show whatQ ((5,m,i,g,e0):Ps).1 x=88 from by unfold whatQ whatP;rw[hN];rfl]|rw[show whatQ ((5,m,i,g,e0):Ps).1 x=69 from by unfold whatQ whatP;rw[hN];rfl]|rw[show whatQ ((5,m,i,g,e0):Ps).1 x=67 from by unfold whatQ whatP;rw[hN];rfl]|rw[show whatQ ((5,m,i,g,e0):Ps).1 x=70 from by unfold whatQ whatP;rw[hN];rfl]|rw[show whatQ ((5,m,i,g,e0):Ps).1 x=46 from by unfold whatQ whatP;rw[hN];rfl]|rw[show whatQ ((5,m,i,g,e0):Ps).1 x=68 from by unfold whatQ whatP;rw[hN];rfl]|rw[show whatQ ((5,m,i,g,e0):Ps).1 x=74 from by unfold whatQ whatP;rw[hN];rfl]|rw[show whatQ ((5,m,i,g,e0):Ps).1 x=71 from by unfold whatQ whatP;rw[hN];rfl])
  (skip)
  unfold stepW
  dsimp only
  (repeat (first|rw[if_pos (by (first|assumption|omega))]|rw[if_neg (by (omega))]))
  (first|rfl|(rw[List.map_cons,CF5];rfl)|(rw[AP1 x (by omega)];rfl))
theorem B13 (t:ByteArray) (x:Int) (hx:0≤x∧x≤1114111):takeP ((7,0,e0,e0,t):Ps) x=stepP ((7,0,e0,e0,t):Ps) x:=by
 have hc:=AD7 x hx
 rcases hc with h|h|h|h|h|h|h|h|h|h|h|h|h|h|h
 all_goals
  obtain⟨h,hN⟩:=h
  unfold stepP takeP takeU restU ctlU escU csiU textU
  (first|rw[show whatQ ((7,0,e0,e0,t):Ps).1 x=46 from by unfold whatQ whatP;rw[hN];rfl]|rw[show whatQ ((7,0,e0,e0,t):Ps).1 x=68 from by unfold whatQ whatP;rw[hN];rfl]|rw[show whatQ ((7,0,e0,e0,t):Ps).1 x=90 from by unfold whatQ whatP;rw[hN];rfl]|rw[show whatQ ((7,0,e0,e0,t):Ps).1 x=89 from by unfold whatQ whatP;rw[hN];rfl]|rw[show whatQ ((7,0,e0,e0,t):Ps).1 x=87 from by unfold whatQ whatP;rw[hN];rfl])
  (skip)
  unfold stepW
  dsimp only
  (repeat (first|rw[if_pos (by (first|assumption|omega))]|rw[if_neg (by (omega))]))
  (first|rfl|(rw[CF4];rfl))
theorem Bv9 (t:ByteArray) (x:Int) (hx:0≤x∧x≤1114111):takeP ((8,0,e0,e0,t):Ps) x=stepP ((8,0,e0,e0,t):Ps) x:=by
 have hc:=AD7 x hx
 rcases hc with h|h|h|h|h|h|h|h|h|h|h|h|h|h|h
 all_goals
  obtain⟨h,hN⟩:=h
  unfold stepP takeP takeU restU ctlU escU csiU textU
  (first|rw[show whatQ ((8,0,e0,e0,t):Ps).1 x=82 from by unfold whatQ whatP;rw[hN];rfl]|rw[show whatQ ((8,0,e0,e0,t):Ps).1 x=89 from by unfold whatQ whatP;rw[hN];rfl])
  (first|rw[show step1 x=stepW (sP 1) x 82 (sP 1,[]) from by unfold step1 whatQ whatP;rw[hN];rfl]|rw[show step1 x=stepW (sP 1) x 88 (sP 1,[]) from by unfold step1 whatQ whatP;rw[hN];rfl]|rw[show step1 x=stepW (sP 1) x 67 (sP 1,[]) from by unfold step1 whatQ whatP;rw[hN];rfl]|rw[show step1 x=stepW (sP 1) x 73 (sP 1,[]) from by unfold step1 whatQ whatP;rw[hN];rfl]|rw[show step1 x=stepW (sP 1) x 70 (sP 1,[]) from by unfold step1 whatQ whatP;rw[hN];rfl]|rw[show step1 x=stepW (sP 1) x 83 (sP 1,[]) from by unfold step1 whatQ whatP;rw[hN];rfl]|rw[show step1 x=stepW (sP 1) x 79 (sP 1,[]) from by unfold step1 whatQ whatP;rw[hN];rfl]|rw[show step1 x=stepW (sP 1) x 84 (sP 1,[]) from by unfold step1 whatQ whatP;rw[hN];rfl]|rw[show step1 x=stepW (sP 1) x 46 (sP 1,[]) from by unfold step1 whatQ whatP;rw[hN];rfl])
  unfold stepW
  dsimp only
  (repeat (first|rw[if_pos (by (first|assumption|omega))]|rw[if_neg (by (omega))]))
  (first|rfl|(rw[AY2,AP1 x (by omega)];rfl))
def okP (p:Ps):Prop:=parOk p.1 p.2.1 p.2.2.1 p.2.2.2.1 p.2.2.2.2
theorem BV1 (p:Ps) (x:Int) (hp:okP p):takeP p x=stepP p x:=by
 obtain⟨s,m,i,g,t⟩:=p
 unfold okP parOk at hp
 dsimp only at hp
 obtain⟨h1,h2,-,h4,-,-,h7,-,h9⟩:=hp
 by_cases hx:x<0∨1114111<x
 ·unfold takeP takeU stepP
  rw[if_pos hx,if_pos hx]
  rfl
 have hx:0≤x∧x≤1114111:=by omega
 have hi:¬(s=2∨s=5)→i=e0:=fun h=>AQ8.2 (by have:=mt h4.1 h;omega)
 have hg:¬(s=4∨s=5)→g=e0:=fun h=>AQ8.2 (h7.resolve_right h)
 have hm:¬(s=4∨s=5)→m=0:=fun h=>h2.resolve_right fun e=>h e.2
 have ht:¬(s=7∨s=8)→t=e0:=fun h=>AQ8.2 (h9.resolve_right h)
 clear h2 h4 h7 h9
 have hs:s=0∨s=1∨s=2∨s=3∨s=4∨s=5∨s=6∨s=7∨s=8∨s=9∨s=10:=by omega
 clear h1
 rcases hs with rfl|rfl|rfl|rfl|rfl|rfl|rfl|rfl|rfl|rfl|rfl
 ·obtain rfl:=hi (by decide);obtain rfl:=hg (by decide);obtain rfl:=hm (by decide);obtain rfl:=ht (by decide);exact Bz9 x hx
 ·obtain rfl:=hi (by decide);obtain rfl:=hg (by decide);obtain rfl:=hm (by decide);obtain rfl:=ht (by decide);exact Bv0 x hx
 ·obtain rfl:=hg (by decide);obtain rfl:=hm (by decide);obtain rfl:=ht (by decide);exact B05 i x hx
 ·obtain rfl:=hi (by decide);obtain rfl:=hg (by decide);obtain rfl:=hm (by decide);obtain rfl:=ht (by decide);exact Bt5 x hx
 ·obtain rfl:=hi (by decide);obtain rfl:=ht (by decide);exact Bu0 m g x hx
 ·obtain rfl:=ht (by decide);exact Bw1 m i g x hx
 ·obtain rfl:=hi (by decide);obtain rfl:=hg (by decide);obtain rfl:=hm (by decide);obtain rfl:=ht (by decide);exact B31 x hx
 ·obtain rfl:=hi (by decide);obtain rfl:=hg (by decide);obtain rfl:=hm (by decide);exact B13 t x hx
 ·obtain rfl:=hi (by decide);obtain rfl:=hg (by decide);obtain rfl:=hm (by decide);exact Bv9 t x hx
 ·obtain rfl:=hi (by decide);obtain rfl:=hg (by decide);obtain rfl:=hm (by decide);obtain rfl:=ht (by decide);exact B24 x hx
 ·obtain rfl:=hi (by decide);obtain rfl:=hg (by decide);obtain rfl:=hm (by decide);obtain rfl:=ht (by decide);exact Bm9 x hx
theorem B90 (p:Ps) (x:Int) (a:Option Addr) (c:Nat) (L:List Int):(csiU p x (a,c,L)).1=(csiU p x (none,0,L)).1∧(csiU p x (a,c,L)).2.map plA=(csiU p x (none,0,L)).2.map plA:=by
 have h:plA (finA p.2.2.1 (4,x,p.2.1,p.2.2.1,(a,c,L),e0))=plA (finA p.2.2.1 (4,x,p.2.1,p.2.2.1,(none,0,L),e0)):=by
  unfold finA
  split<;>rfl
 unfold csiU
 by_cases h1:p.1=6
 ·rw[if_pos h1,if_pos h1];exact⟨O,O⟩
 rw[if_neg h1,if_neg h1]
 by_cases h2:x<48
 ·rw[if_pos h2,if_pos h2];exact⟨O,O⟩
 rw[if_neg h2,if_neg h2]
 by_cases h3:64≤x
 ·rw[if_pos h3,if_pos h3];exact⟨O,congrArg (fun z=>[z]) h⟩
 rw[if_neg h3,if_neg h3]
 exact⟨O,O⟩
theorem BF4 (p:Ps) (x:Int) (a:Option Addr) (c:Nat) (L:List Int):(restU p x (a,c,L)).1=(restU p x (none,0,L)).1∧(restU p x (a,c,L)).2.map plA=(restU p x (none,0,L)).2.map plA:=by
 unfold restU
 by_cases h1:x<32∨(127≤x∧x≤159)
 ·rw[if_pos h1,if_pos h1];exact⟨O,O⟩
 rw[if_neg h1,if_neg h1]
 by_cases h2:p.1=0
 ·rw[if_pos h2,if_pos h2];exact⟨O,O⟩
 rw[if_neg h2,if_neg h2]
 by_cases h3:160≤x
 ·rw[if_pos h3,if_pos h3];exact⟨O,O⟩
 rw[if_neg h3,if_neg h3]
 by_cases h4:p.1≤2
 ·rw[if_pos h4,if_pos h4];exact⟨O,O⟩
 rw[if_neg h4,if_neg h4]
 exact B90 p x a c L
theorem By8 (p:Ps) (x:Int) (a:Option Addr) (c:Nat):(takeU p x (a,c,(readA p.2.2.2.1).1)).1=(takeP p x).1∧(takeU p x (a,c,(readA p.2.2.2.1).1)).2.map plA=(takeP p x).2:=by
 unfold takeP takeU
 dsimp only
 by_cases h1:x<0∨1114111<x
 ·rw[if_pos h1,if_pos h1];exact⟨O,O⟩
 rw[if_neg h1,if_neg h1]
 by_cases h2:p.1=7∨p.1=9
 ·rw[if_pos h2,if_pos h2];exact⟨O,O⟩
 rw[if_neg h2,if_neg h2]
 by_cases h3:p.1=8∨p.1=10
 ·rw[if_pos h3,if_pos h3]
  by_cases h4:x=92
  ·rw[if_pos h4,if_pos h4];exact⟨O,O⟩
  rw[if_neg h4,if_neg h4]
  have h:=BF4 (sP 1) x a c (readA p.2.2.2.1).1
  refine⟨h.1,?_⟩
  rw[List.map_cons,List.map_cons,h.2]
 rw[if_neg h3,if_neg h3]
 exact BF4 p x a c _
theorem Bz7 (i:ByteArray):inI i 3=1↔((∀x∈nums i,inB x=true)∧i.size≤3):=by
 unfold inI
 rw[←List.all_eq_true]
 by_cases h:(nums i).all inB=true∧(i.size:Int)≤3
 ·rw[if_pos h];exact⟨fun _=>⟨h.1,by omega⟩,fun _=>O⟩
 ·rw[if_neg h];exact⟨fun e=>absurd e (by decide),fun e=>absurd ⟨e.1,by omega⟩ h⟩
theorem Bx4 (g:ByteArray):okI g=1↔(∀x∈nums g,okA x=true):=by
 unfold okI
 rw[←List.all_eq_true]
 by_cases h:(nums g).all okA=true
 ·rw[if_pos h];exact⟨fun _=>h,fun _=>O⟩
 ·rw[if_neg h];exact⟨fun e=>absurd e (by decide),fun e=>absurd e h⟩
theorem AO1 (s m:Int) (i g t:ByteArray):okP (s,m,i,g,t)↔((0≤s∧s≤10)∧(m=0∨((60≤m∧m≤63)∧(s=4∨s=5)))∧((∀x∈nums i,inB x=true)∧i.size≤3)∧(0<i.size↔(s=2∨s=5))∧(∀x∈nums g,okA x=true)∧g.size≤100∧(g.size=0∨s=4∨s=5)∧t.size≤256∧(t.size=0∨s=7∨s=8)):=by
 rw[←Bz7,←Bx4]
 exact Iff.rfl
theorem AR3 (k:Int) (h:0≤k∧k≤10) (h2:k≠2) (h5:k≠5):okP (sP k):=by
 refine(AO1 k 0 e0 e0 e0).2 ⟨h,.inl O,⟨fun _ h=>(nomatch h),Nat.zero_le _⟩,⟨fun h=>absurd h (by decide),fun h=>by omega⟩,fun _ h=>(nomatch h),Nat.zero_le _,.inl O,Nat.zero_le _,.inl O⟩
theorem Ao4 {c:Prop} [Decidable c] {a b k:Nat} (ha:a≠k) (hb:b≠k):(if c then a else b)≠k:=by split<;>assumption
theorem B63 {x:Int} (h:clsN x=4):32≤x∧x≤47:=by
 refine Classical.byContradiction fun hn=>absurd h ?_
 unfold clsN
 rw[if_neg hn]
 repeat' (first|decide|apply Ao4)
theorem CG0 {x:Int} (h:clsN x=6):48≤x∧x≤59∧x≠58:=by
 refine Classical.byContradiction fun hn=>absurd h ?_
 unfold clsN
 by_cases h8:x=58
 ·rw[if_pos h8]
  repeat' (first|decide|apply Ao4)
 ·rw[if_neg (show ¬(48≤x∧x≤59) from fun e=>hn ⟨e.1,e.2,h8⟩)]
  repeat' (first|decide|apply Ao4)
theorem CF6 {x:Int} (h:clsN x=7):60≤x∧x≤63:=by
 refine Classical.byContradiction fun hn=>absurd h ?_
 unfold clsN
 rw[if_neg hn]
 repeat' (first|decide|apply Ao4)
def tabOk (k n:Nat):Bool:=
 ((tabL k).getD n 0 !=73||(n==4&&(k==1||k==3||k==4)))&&((tabL k).getD n 0 !=74||(n==4&&(k==2||k==5)))&&((tabL k).getD n 0 !=65||(n==6&&(k==3||k==4)))&&
 ((tabL k).getD n 0 !=77||(n==7&&k==3))&&((tabL k).getD n 0 !=90||(k==7||k==9))&&((tabL k).getD n 0 !=87||k==7)
theorem B15:(List.range 11).all (fun k=>(List.range 15).all (tabOk k))=true:=by decide+kernel
theorem Bi5 (w:Int) (s:Int) (n:Nat) (hs:0≤s∧s≤10) (hn:n<15) (h:(tabL s).getD n 0=w):
 (w=73→n=4∧(s=1∨s=3∨s=4))∧(w=74→n=4∧(s=2∨s=5))∧(w=65→n=6∧(s=3∨s=4))∧(w=77→n=7∧s=3)∧(w=90→s=7∨s=9)∧(w=87→s=7):=by
 obtain⟨k,rfl⟩:∃k:Nat,s=k:=⟨s.toNat,by omega⟩
 have h1:=List.all_eq_true.1 (List.all_eq_true.1 B15 k (List.mem_range.2 (by omega))) n (List.mem_range.2 hn)
 unfold tabOk at h1
 rw[h] at h1
 simp only[Bool.and_eq_true,Bool.or_eq_true,bne_iff_ne,ne_eq,beq_iff_eq] at h1
 obtain⟨⟨⟨⟨⟨a1,a2⟩,a3⟩,a4⟩,a5⟩,a6⟩:=h1
 clear h
 refine⟨fun e=>?_,fun e=>?_,fun e=>?_,fun e=>?_,fun e=>?_,fun e=>?_⟩
 ·have:=a1.resolve_left (fun x=>x e);omega
 ·have:=a2.resolve_left (fun x=>x e);omega
 ·have:=a3.resolve_left (fun x=>x e);omega
 ·have:=a4.resolve_left (fun x=>x e);omega
 ·have:=a5.resolve_left (fun x=>x e);omega
 ·have:=a6.resolve_left (fun x=>x e);omega
theorem Af3 {x:Int} (h:0≤x∧x<128):(signB x).size=1∧nums (signB x)=[x]:=by
 unfold signB
 rw[if_pos h.2]
 exact⟨by rw[strOfNums_size];rfl,AE7 fun y hy=>by rw[List.mem_singleton] at hy;omega⟩
theorem Al9 (a b:ByteArray):(a++b).size=a.size+b.size:=by
 rw[←nums_length,nums_append,List.length_append,nums_length,nums_length]
theorem A93 (p:Ps) (x w:Int) (R:Ps×List Pa) (hp:okP p) (hw:whatQ p.1 x=w) (hR:okP R.1):okP (stepW p x w R).1:=by
 obtain⟨s,m,i,g,t⟩:=p
 have hp0:=hp
 rw[AO1] at hp
 obtain⟨h1,h2,h3,h4,h5,h6,h7,h8,h9⟩:=hp
 have hw2:w=46∨whatP s x=w:=by
  dsimp only at hw
  unfold whatQ at hw
  split at hw
  ·exact .inl hw.symm
  ·exact .inr hw
 have hf:w=46∨((w=73→clsN x=4∧(s=1∨s=3∨s=4))∧(w=74→clsN x=4∧(s=2∨s=5))∧(w=65→clsN x=6∧(s=3∨s=4))∧(w=77→clsN x=7∧s=3)∧(w=90→s=7∨s=9)∧(w=87→s=7)):=
  hw2.imp id fun h=>Bi5 w s _ h1 (B35 x) h
 clear hw hw2
 unfold stepW
 dsimp only
 by_cases a1:w=88∨w=68
 ·rw[if_pos a1];exact AR3 0 (by omega) (by omega) (by omega)
 rw[if_neg a1]
 by_cases a2:w=69
 ·rw[if_pos a2];exact AR3 1 (by omega) (by omega) (by omega)
 rw[if_neg a2]
 by_cases a3:w=67
 ·rw[if_pos a3];exact hp0
 rw[if_neg a3]
 by_cases a4:w=80
 ·rw[if_pos a4];exact hp0
 rw[if_neg a4]
 by_cases a5:w=73
 ·rw[if_pos a5]
  have hc:=(hf.resolve_left (by omega)).1 a5
  have hx:=B63 hc.1
  obtain⟨z1,z2⟩:=Af3 (x:=x) (by omega)
  refine(AO1 _ _ _ _ _).2 ⟨by split<;>omega,?_,⟨fun y hy=>?_,by omega⟩,⟨fun _=>by split<;>omega,fun _=>by omega⟩,h5,h6,?_,h8,?_⟩
  ·rcases h2 with h|h
   ·exact .inl h
   ·exact .inr ⟨h.1,by rw[if_neg (by omega)];omega⟩
  ·rw[z2,List.mem_singleton] at hy
   subst hy
   exact decide_eq_true hx
  ·rcases h7 with h|h
   ·exact .inl h
   ·exact .inr (by rw[if_neg (by omega)];omega)
  ·rcases h9 with h|h
   ·exact .inl h
   ·omega
 rw[if_neg a5]
 by_cases a6:w=74
 ·rw[if_pos a6]
  have hc:=(hf.resolve_left (by omega)).2.1 a6
  have hx:=B63 hc.1
  obtain⟨z1,z2⟩:=Af3 (x:=x) (by omega)
  by_cases hi:i.size<3
  ·rw[if_pos hi]
   have hz:=Al9 i (signB x)
   refine(AO1 _ _ _ _ _).2 ⟨h1,h2,⟨fun y hy=>?_,by omega⟩,⟨fun _=>hc.2,fun _=>by omega⟩,h5,h6,h7,h8,h9⟩
   rw[nums_append,List.mem_append] at hy
   rcases hy with hy|hy
   ·exact h3.1 y hy
   ·rw[z2,List.mem_singleton] at hy
    subst hy
    exact decide_eq_true hx
  ·rw[if_neg hi];exact hp0
 rw[if_neg a6]
 by_cases a7:w=65
 ·rw[if_pos a7]
  have hc:=(hf.resolve_left (by omega)).2.2.1 a7
  have hx:=CG0 hc.1
  obtain⟨z1,z2⟩:=Af3 (x:=x) (by omega)
  have hm:m=0∨((60≤m∧m≤63)∧((4:Int)=4∨(4:Int)=5)):=h2.imp id fun h=>⟨h.1,.inl rfl⟩
  have hi4:0<i.size↔((4:Int)=2∨(4:Int)=5):=⟨fun h=>by have:=h4.1 h;omega,fun h=>by omega⟩
  have ht4:t.size=0∨(4:Int)=7∨(4:Int)=8:= .inl (h9.resolve_right (by omega))
  by_cases hi:g.size<100
  ·rw[if_pos hi]
   have hz:=Al9 g (signB x)
   refine(AO1 _ _ _ _ _).2 ⟨by omega,hm,h3,hi4,fun y hy=>?_,by omega,by omega,h8,ht4⟩
   rw[nums_append,List.mem_append] at hy
   rcases hy with hy|hy
   ·exact h5 y hy
   ·rw[z2,List.mem_singleton] at hy
    subst hy
    unfold okA
    rw[decide_eq_true_eq]
    omega
  ·rw[if_neg hi]
   exact(AO1 _ _ _ _ _).2 ⟨by omega,hm,h3,hi4,h5,h6,by omega,h8,ht4⟩
 rw[if_neg a7]
 by_cases a8:w=77
 ·rw[if_pos a8]
  have hc:=(hf.resolve_left (by omega)).2.2.2.1 a8
  have hx:=CF6 hc.1
  exact(AO1 _ _ _ _ _).2 ⟨by omega,.inr ⟨hx,.inl rfl⟩,⟨fun _ h=>(nomatch h),Nat.zero_le _⟩,⟨fun h=>absurd h (by decide),fun h=>by omega⟩,fun _ h=>(nomatch h),Nat.zero_le _,.inl rfl,Nat.zero_le _,.inl rfl⟩
 rw[if_neg a8]
 by_cases a9:w=71
 ·rw[if_pos a9];exact AR3 6 (by omega) (by omega) (by omega)
 rw[if_neg a9]
 by_cases a10:w=83
 ·rw[if_pos a10];exact AR3 3 (by omega) (by omega) (by omega)
 rw[if_neg a10]
 by_cases a11:w=79
 ·rw[if_pos a11];exact AR3 7 (by omega) (by omega) (by omega)
 rw[if_neg a11]
 by_cases a12:w=84
 ·rw[if_pos a12];exact AR3 9 (by omega) (by omega) (by omega)
 rw[if_neg a12]
 by_cases a13:w=90
 ·rw[if_pos a13]
  have hc:=(hf.resolve_left (by omega)).2.2.2.2.1 a13
  exact(AO1 _ _ _ _ _).2 ⟨by omega,by omega,h3,⟨fun h=>by have:=h4.1 h;omega,fun h=>by omega⟩,h5,h6,by omega,h8,by omega⟩
 rw[if_neg a13]
 by_cases a14:w=87
 ·rw[if_pos a14]
  have hc:=(hf.resolve_left (by omega)).2.2.2.2.2 a14
  by_cases hz:t.size+(rtB x).size≤256
  ·rw[if_pos hz]
   have hzz:=Al9 t (rtB x)
   exact(AO1 _ _ _ _ _).2 ⟨h1,h2,h3,h4,h5,h6,h7,by omega,.inr (.inl hc)⟩
  ·rw[if_neg hz];exact hp0
 rw[if_neg a14]
 by_cases a15:w=89
 ·rw[if_pos a15];exact AR3 0 (by omega) (by omega) (by omega)
 rw[if_neg a15]
 by_cases a16:w=70
 ·rw[if_pos a16];exact AR3 0 (by omega) (by omega) (by omega)
 rw[if_neg a16]
 by_cases a17:w=82
 ·rw[if_pos a17];exact hR
 rw[if_neg a17]
 exact hp0
theorem Be5 (x:Int):okP (step1 x).1:=A93 (sP 1) x _ _ (AR3 1 (by omega) (by omega) (by omega)) rfl (AR3 1 (by omega) (by omega) (by omega))
theorem A05 (p:Ps) (x:Int) (hp:okP p):okP (stepP p x).1:=by
 unfold stepP
 split
 ·exact hp
 ·exact A93 p x _ _ hp O (Be5 x)
def runP (p:Ps) (L:List Int):Ps×List Pa:=L.foldl (fun z x=>((stepP z.1 x).1,z.2++(stepP z.1 x).2)) (p,[])
theorem BZ8 (p:Ps) (L:List Int) (x:Int):runP p (L++[x])=((stepP (runP p L).1 x).1,(runP p L).2++(stepP (runP p L).1 x).2):=by
 unfold runP
 rw[List.foldl_append]
 rfl
theorem BU0 {p:Ps} {L:List Int} {k:Nat} {x:Int} (h:L[k]? =some x):runP p (L.take (k+1))=((stepP (runP p (L.take k)).1 x).1,(runP p (L.take k)).2++(stepP (runP p (L.take k)).1 x).2):=by
 rw[←BZ8,List.take_add_one,h]
 rfl
theorem A59 {c:Prop} [Decidable c] {a b:Ps×List Pa} (ha:a.2.length≤2) (hb:b.2.length≤2):(if c then a else b).2.length≤2:=by split<;>assumption
theorem B52 {c:Prop} [Decidable c]:(if c then ([]:List Pa) else [dP]).length≤2:=by
 split
 ·exact Nat.zero_le _
 ·exact Nat.le_succ 1
theorem Av6 (p:Ps) (x:Int):(stepP p x).2.length≤2:=by
 unfold stepP
 refine A59 (Nat.zero_le _) ?_
 have h1:=BT0 x
 unfold stepW
 repeat' (first|exact Nat.zero_le _|exact Nat.le_succ 1|exact Nat.succ_le_succ h1|exact B52|apply A59)
theorem A34 (s m:Int) (i g t:ByteArray):parE s m i g t=0↔okP (s,m,i,g,t):=by
 unfold parE okP
 dsimp only
 constructor
 ·intro h
  split at h
  ·assumption
  ·cases h
 ·intro h
  exact if_pos h
def RunR (G:Ctx) (H:List Ent) (Z:Ps×List Pa) (W:Value→Value) (H':List Ent) (v:Value):Prop:=
 ∃(F:List Ent) (X:List Ac) (a:Option Addr) (c:Nat),v=W (.slice a X.length c)∧X.length≤9000000∧X.map plA=Z.2∧(∀y∈X,Sl ints G F y.2.2.2.2.1)∧Sl acs G F (a,c,X)∧H'=F++H
theorem Bw2 {f:List Int→List Value} {G:Ctx} {F E:List Ent} {x:Rx Int} (h:Sl f G F x):Sl f G (F++E) x:=h.mono fun _ hw=>hw.sub (List.sublist_append_left F E)
section
attribute [local irreducible] SW SL SQ AtQ SV SC BB LD PK Yields SO SOT SOA SY SP SPT SPA
theorem A38 (G:Ctx) (H:List Ent) (M:Int) (hM:∀H w,Holds G H w→w.cell? ⟨2,0,none⟩=some (.int .i64 M)) (s m:Int) (i g t:ByteArray) (hp:okP (s,m,i,g,t)) (L:List Int) (ao:Option Addr) (n co:Nat) [h1:RdC G H ao (ints L)] (hn:n=L.length) (hmn:n≤4000000):SC Tryz.prog G 30 [psV s m i g t,.slice ao n co] H (fun v H'=>RunR G H (runP (s,m,i,g,t) L) (fun r=> .tuple #[psV (runP (s,m,i,g,t) L).1.1 (runP (s,m,i,g,t) L).1.2.1 (runP (s,m,i,g,t) L).1.2.2.1 (runP (s,m,i,g,t) L).1.2.2.2.1 (runP (s,m,i,g,t) L).1.2.2.2.2,r,.int .i64 0]) H' v):=by
 have hp2:=(AO1 s m i g t).1 hp
 have c1:=fun H=>Aw3 G H M hM s m i g t (by omega) (by omega)
 rw[(A34 s m i g t).2 hp] at c1
 clear hp2
 have hlx:(ints L).length=n * 1:=by rw[hn];simp [ints]
 have hel:∀(k:Nat) x,L[k]? =some x→(ints L)[(k:Int).toNat * 1]? =some (.int .i64 x):=fun k x hx=>by simp [ints,hx]
 have Hn:=Lib.hid hn
 have Hel:=Lib.hid hel
 have Hp:=Lib.hid hp
 clear hel hn hp
 refine I7 Tryz.func30 O O O O O ?_
 repeat' (first|(apply E8;first|(apply A8;refine A9 ?_)|(apply C8;refine D7 O O ?_)|(apply E5;refine F7 O O O ?_;refine F9 O ?_)|(apply F5;refine F8 O O ?_;refine M5 O ?_)|(apply D5;refine D9 O O ?_)|(apply U0;refine U6 (Q9 O O O) O ?_)|(apply H5;refine H6 O O O (c1 _) O O ?_)|(apply K5;refine s_call (S9 O O) O ?_)|(apply K6;refine L9 O O O O O O (fun _=>?_))|(apply O6;refine Q4 O O O O (fun _=>?_)))|(apply D6)|(apply G8)|(apply F3)|(apply A7)|(refine G5 O ?_;apply H7)|(apply C9))
 rename_i b2 b4 b8
 refine R7 (α:=Nat×Ps×List Ac×List Ent×Option Addr×Nat) (fun z=>[(2,.pointer (some ⟨b2,0,none⟩)),(4,.pointer (some ⟨b4,0,none⟩)),(8,.pointer (some ⟨b8,0,none⟩)),(20,.slice ao n co),(21,.int .i64 n),(22,.int .i64 z.1)])
  (fun z=>mcH b8 z.2.1 z.2.2.1 z.2.2.2.2.1 z.2.2.2.2.2 (z.2.2.2.1++(.blk b4 26 [.int .i64 0,.int .i64 0,.string e0,.string e0,.string e0]::H)))
  (fun z=>z.1≤n∧z.2.2.1.length≤2 * z.1∧okP z.2.1∧z.2.1=(runP (s,m,i,g,t) (L.take z.1)).1∧z.2.2.1.map plA=(runP (s,m,i,g,t) (L.take z.1)).2∧∀y∈z.2.2.1,Sl ints G z.2.2.2.1 y.2.2.2.2.1) (fun z=>n-z.1) (0,(s,m,i,g,t),[],[],none,0)
  ⟨Nat.zero_le _,Nat.zero_le _,Hp.out,rfl,rfl,fun _ h=>nomatch h⟩ Q7 (fun _ hw=>by unfold mcH;exact(hw.nilrow 160 6).subs (by repeat (first|refine Subs.cons (by repeat constructor) ?_ |exact Subs.sub O0))) ?_
 rintro ⟨k,p,X,E,a,c⟩ ⟨hk,hX,hp,hz1,hz2,hz3⟩
 dsimp only at hk hX hp hz1 hz2 hz3 ⊢
 obtain⟨s',m',i',g',t'⟩:=p
 have Hz1:=Lib.hid hz1
 have Hz2:=Lib.hid hz2
 have Hp2:=Lib.hid hp
 have hp3:=(AO1 _ _ _ _ _).1 hp
 have hs':=hp3.1
 have hg':g'.size≤200:=by omega
 have ht':t'.size≤256:=by omega
 clear hz1 hz2 hp hp3
 by_cases hlt:(k:Int)<n
 ·obtain⟨x,hx⟩:=AC3 (X:=L) (k:=k) (by rw[←Hn.out];omega)
  have hxi:=Hel.out k x hx
  have c2:=fun K=>Bl9 G K M hM b8 s' m' i' g' t' X a c x hs' ht' hg' (by omega)
  have hst:∀a2 c2,(takeU (s',m',i',g',t') x (a2,c2,(readA g').1)).1=(stepP (s',m',i',g',t') x).1∧(takeU (s',m',i',g',t') x (a2,c2,(readA g').1)).2.map plA=(stepP (s',m',i',g',t') x).2:=fun a2 c2=>by
   rw[←BV1 _ x Hp2.out]
   exact By8 (s',m',i',g',t') x a2 c2
  have hrun:=BU0 (p:=(s,m,i,g,t)) hx
  have Hrun:=Lib.hid hrun
  have Hst:=Lib.hid hst
  clear hrun hst hx
  unfold TakeR at c2
  unfold mcH at c2 ⊢
  dsimp only at c2 ⊢
  generalize hU:takeU (s',m',i',g',t') x=U at *
  repeat' (first|(apply E8;first|(apply A8;refine A9 ?_)|(apply C8;refine D7 O O ?_)|(apply E5;refine F7 O O O ?_;first|(apply K9;refine L6 ⟨by omega,by omega⟩ ?_)|refine F9 O ?_)|(apply F5;refine F8 O O ?_;refine X8 hxi ?_)|(apply D5;refine D9 O O ?_)|(apply M4;refine M8 (K7 O O O hlx (by omega) (by omega)) O ?_)|(apply H5;refine c_call O O O (c2 _) O O ?_;rintro _ _ ⟨a2,k2,F,a5,k5,rfl,rfl,hno⟩))|(apply D6)|(apply G8)|(apply F3)|(apply A7)|(refine G5 O ?_;apply E9<;>intro hq<;>(try (exfalso;omega)))|(apply C9)|(apply H9))
  clear c2
  obtain⟨u1,u2⟩:=Hst.out a2 k2
  have hul:=Av6 (s',m',i',g',t') x
  rw[←u2,List.length_map] at hul
  have hrz:=Hrun.out
  rw[←Hz1.out,←Hz2.out] at hrz
  refine J6 (k+1,(U (a2,k2,(readA g').1)).1,X++(U (a2,k2,(readA g').1)).2,F++E,a5,k5) ⟨⟨by dsimp only;omega,?_,?_,?_,?_,?_⟩,by dsimp only;omega⟩ Q7 ?_
  ·dsimp only;rw[List.length_append];omega
  ·dsimp only;rw[u1];exact A05 _ _ Hp2.out
  ·dsimp only;rw[u1,hrz]
  ·dsimp only;rw[List.map_append,u2,hrz]
  ·dsimp only
   intro y hy
   rcases List.mem_append.1 hy with hy|hy
   ·exact(hz3 y hy).app
   ·exact Bw2 (hno y hy)
  ·intro w hw
   dsimp only
   rw[List.append_assoc]
   exact hw
 ·obtain rfl:n=k:=by omega
  have hz1:=Hz1.out
  have hz2:=Hz2.out
  rw[Hn.out,List.take_length] at hz1 hz2
  have Hy1:=Lib.hid hz1
  have Hy2:=Lib.hid hz2
  clear hz1 hz2 Hz1 Hz2
  unfold mcH
  dsimp only
  repeat' (first|(apply E8;first|(apply A8;refine A9 ?_)|(apply E5;refine F7 O O O ?_;refine F9 O ?_))|(apply D6)|(apply O7)|((fail_if_success (refine J5 (id:=10) ?_));apply A7)|(refine G5 O ?_;apply E9<;>intro hq<;>(try (exfalso;omega)))|(apply C9)|(apply K3)|(apply K4))
  refine Z5 (.blk b4 26 [.int .i64 0,.int .i64 0,.string e0,.string e0,.string e0]:: .blk b8 152 [.int .i64 s',.int .i64 m',.string i',.string g',.string t',.slice a X.length c]:: .own 160 6 a X.length c (acs X)::(E++H)) (fun w hw=>hw.perm ?_) ?_
  ·exact((List.perm_middle.cons _).cons _).trans (((List.Perm.swap _ _ _).cons _).trans (List.Perm.swap _ _ _))
  refine Z6 (.blk b8 152 [.int .i64 s',.int .i64 m',.string i',.string g',.string t',.slice a X.length c]:: .own 160 6 a X.length c (acs X)::(E++H)) J3 ?_
  repeat' (first|(apply E8;first|(apply A8;refine A9 ?_)|(apply H8;refine Q8 O O O O O O O O ?_))|(apply Q0;refine N8 (k:=0) J3 ?_)|(apply U3;first|(refine L8 O ?_)|(refine O4 O O O O (by kernel_rfl) (by decide+kernel) (by decide+kernel) ?_;first|(apply O1;refine G9 (P9 O O) ?_)|(apply R9;refine R6 O ?_;first|refine F4 O ?_ |refine O9 O O ?_)|(apply AA4;refine G9 (o6 O O) ?_)|(apply M3;refine G9 (D8 O O) ?_)|(apply R5;refine G9 (F6 O O) ?_))|(refine O5 O ?_)|(refine N9 (by decide+kernel) ?_)|(refine Q6 (by kernel_rfl) ?_))|(apply V3;first|(refine Q5 O)|(refine U1 (by decide+kernel) ?_)|(refine Q3 O ?_ ?_))|(apply I4)|(apply C9))
  refine AB4 (.own 160 6 a X.length c (acs X)::(E++H)) (by (exact .inr O)) O O O J3 ?_
  refine⟨.own 160 6 a X.length c (acs X)::E,X,a,c,?_,by omega,Hy2.out,fun y hy=>(hz3 y hy).cons,Sl.own List.mem_cons_self rfl rfl,rfl⟩
  rw[←Hy1.out]
  rfl
abbrev w9:Ps:=(0,0,e0,e0,e0)
theorem ScRd.mono {G:Ctx} {H H':List Ent} {s:Scr} {ga:Option Addr} {gn gc:Nat} {oa:Option Addr} {on oc:Nat} {pa:Option Addr} {pn pc:Nat} {X:List (Rx Qd)} (h:ScRd G H s ga gn gc oa on oc pa pn pc X) (hh:∀w,Holds G H' w→Holds G H w):ScRd G H' s ga gn gc oa on oc pa pn pc X:=
 ⟨⟨fun w hw=>h.g.here w (hh w hw)⟩,⟨fun w hw=>h.o.here w (hh w hw)⟩,⟨fun w hw=>h.p.here w (hh w hw)⟩,h.r.mono hh,h.x,h.gn',h.on',h.pn',h.gc',h.oc'⟩
def acts (s:Scr) (A:List Pa) (s':Scr):Prop:=
 (∃k c,A=[(k,c,0,e0,[],e0)]∧((k=1∧(0≤c∧c≤127)∧J2 c=1)∨(k=2∧(c=13∨c=10)))∧s'=actS s k c)∨
 (A=[(2,13,0,e0,[],e0),(2,10,0,e0,[],e0)]∧s'=A62 (homeS s))
theorem Aw7 (G:Ctx) (H:List Ent) {vs:List Value} (a:Option Addr) (n c:Nat) [h1:RdC G H a vs] (hlx:vs.length=n * 1) (hone:vs.all (·.oneCell')=true) (hm:n≤100000000):SC Tryz.prog G 46 [.slice a n c] H fun v H'=>∃a' c',v= .slice a' n c'∧H'= .own 9 1 a' n c' vs::H:=by
 refine Ah7 (l8 Tryz.func46 O O) fun w0 hw0=>?_
 cases a with
 | none=>
   have h0:=At.none_nil (h1.here w0 hw0)
   subst h0
   obtain rfl:n=0:=by rw[List.length_nil] at hlx;omega
   clear hlx hone
   refine Z0 Tryz.func46 O O O O O ?_
   repeat' (first|(apply E8;first|(apply A8;refine A9 ?_)|(apply C8;refine D7 O O ?_)|(apply E5;refine F7 O O O ?_;refine AU6 ?_)|(apply D5;refine D9 O O ?_))|(apply D6)|(apply I4)|(apply A7)|(refine G5 O ?_;apply I1)|(apply C9)|(apply J8))
   ·exact I8 (.own 9 1 none 0 0 []::H) (.inr O) O (fun _ hw=>hw.nilrow _ _) ⟨_,_,O,O⟩
 | some a=>
   refine Z0 Tryz.func46 O O O O O ?_
   repeat' (first|(apply E8;first|(apply A8;refine A9 ?_)|(apply C8;refine D7 O O ?_)|(apply E5;refine F7 O O O ?_;refine AU6 ?_)|(apply D5;refine D9 O O ?_)|(apply K5;refine U9 O O O O hlx hone (by omega) O O (fun _ _=>?_))|(apply j3;refine A86 O O O O (fun _=>?_)))|(apply D6)|(apply G8)|(apply I4)|(apply A7)|(refine G5 O ?_;apply H7)|(apply C9))
   refine AI9 _ (.inr O) O (List.Sublist.refl _) ?_
   simp only[Nat.zero_add,List.nil_append]
   exact⟨_,_,O,O⟩
theorem At8 (G:Ctx) (H:List Ent) {vs:List Value} (a:Option Addr) (n c:Nat) [h1:RdC G H a vs] (hlx:vs.length=n * 4) (hone:vs.all (·.oneCell')=true) (hm:n≤100000000):SC Tryz.prog G 47 [.slice a n c] H fun v H'=>∃a' c',v= .slice a' n c'∧H'= .own 142 4 a' n c' vs::H:=by
 refine Ah7 (l8 Tryz.func47 O O) fun w0 hw0=>?_
 cases a with
 | none=>
   have h0:=At.none_nil (h1.here w0 hw0)
   subst h0
   obtain rfl:n=0:=by rw[List.length_nil] at hlx;omega
   clear hlx hone
   refine Z0 Tryz.func47 O O O O O ?_
   repeat' (first|(apply E8;first|(apply A8;refine A9 ?_)|(apply C8;refine D7 O O ?_)|(apply E5;refine F7 O O O ?_;refine AU6 ?_)|(apply D5;refine D9 O O ?_))|(apply D6)|(apply I4)|(apply A7)|(refine G5 O ?_;apply I1)|(apply C9)|(apply J8))
   ·exact I8 (.own 142 4 none 0 0 []::H) (.inr O) O (fun _ hw=>hw.nilrow _ _) ⟨_,_,O,O⟩
 | some a=>
   refine Z0 Tryz.func47 O O O O O ?_
   repeat' (first|(apply E8;first|(apply A8;refine A9 ?_)|(apply C8;refine D7 O O ?_)|(apply E5;refine F7 O O O ?_;refine AU6 ?_)|(apply D5;refine D9 O O ?_)|(apply K5;refine U9 O O O O hlx hone (by omega) O O (fun _ _=>?_))|(apply j3;refine A86 O O O O (fun _=>?_)))|(apply D6)|(apply G8)|(apply I4)|(apply A7)|(refine G5 O ?_;apply H7)|(apply C9))
   refine AI9 _ (.inr O) O (List.Sublist.refl _) ?_
   simp only[Nat.zero_add,List.nil_append]
   exact⟨_,_,O,O⟩
theorem BP4 (G:Ctx) (H:List Ent) (s:Int) (b:Bool) (hb:b=decide (0≤s∧s≤5)):SV Tryz.prog G 128 [.int .i64 s] H (.bool b):=by
 subst hb
 refine P8 Tryz.func128 O O O O O ?_
 repeat' (first|(apply E8;first|(apply A8;refine A9 ?_)|(apply C8;refine D7 O O ?_)|(apply E5;refine F7 O O O ?_;refine F9 O ?_)|(apply D5;refine D9 O O ?_)|(apply I6;refine J4 O O ?_;first|(apply P7;refine P6 O ?_)|(apply M6;refine M7 O ?_))|(apply I5;refine J9 O O O O ?_;first|(apply I1)|(apply H7)|(apply E9<;>intro hq<;>(try (exfalso;omega)))))|(apply D6)|(apply I4)|(apply A7)|(apply C9))
 all_goals (refine N7 (by (exact .inr O)) O O0 ?_;first|exact Bh5 (by omega)|exact Al2 (by omega))
end
end Go.Proofs.YtmmnimagbnlcmaaGreatDoor
namespace Go.Sx
theorem Ax8:∀(l:List Value) (k:Nat) (v:Value),k<l.length→set? l k v=some (l.set k v)
 | [],k,v,h=>by simp at h
 | x::l,0,v,_=>rfl
 | x::l,k+1,v,h=>by
   unfold set?
   rw[Ax8 l k v (by simpa using h)]
   rfl
theorem Ab9:∀(vs l:List Value) (k:Nat),k+vs.length≤l.length→putL? l k vs=some (l.take k++vs++l.drop (k+vs.length))
 | [],l,k,_=>by simp [putL?]
 | v::vs,l,k,h=>by
   have hk:k<l.length:=by simp at h;omega
   unfold putL?
   rw[Ax8 l k v hk]
   simp only
   rw[Ab9 vs (l.set k v) (k+1) (by simp at h ⊢;omega)]
   congr 1
   rw[List.take_set,List.drop_set_of_lt (by omega),List.take_succ_eq_append_getElem hk,List.set_append_right _ _ (by simp;omega)]
   simp [Nat.min_eq_left (Nat.le_of_lt hk),Nat.add_assoc,Nat.add_comm 1]
theorem CE4 {offs:List (Nat×Nat)} {z a b:List Value} {m:Nat} (h0:offs[0]? =some (0,m)) (h1:offs[1]? =some (m,m)) (hm:0<m) (hz:z.length=m+m) (ha:a.length=m) (hb:b.length=m):AB6 offs z [(0,a),(1,b)]=some (a++b):=by
 have e1:(Nat.beq a.length m&&Nat.blt 0 m)=true:=by simp [ha,hm,Nat.blt_eq]
 have e2:(Nat.beq b.length m&&Nat.blt 0 m)=true:=by simp [hb,hm,Nat.blt_eq]
 unfold AB6
 simp only[h0,e1,cond_true]
 rw[Ab9 a z 0 (by omega)]
 simp only
 unfold AB6
 simp only[h1,e2,cond_true]
 rw[Ab9 b _ m (by simp;omega)]
 simp only
 unfold AB6
 congr 1
 rw[List.take_zero,List.nil_append,Nat.zero_add,ha,List.take_append_of_le_length (by omega),List.take_of_length_le (by omega),List.drop_eq_nil_of_le (by simp;omega),List.append_nil]
end Go.Sx
namespace Go.Proofs.YtmmnimagbnlcmaaGreatDoor
section
attribute [local irreducible] SW SL SQ AtQ SV SC BB LD PK Yields SO SOT SOA SY SP SPT SPA
def takeL (L:List Int) (d:ByteArray):List Int:=if ¬keysE L=0 then L else if ¬d.size % 3=0 then L else if 300<d.size then L else (runS L (nums d) (d.size / 3)).1
def takeS (L:List Int) (d:ByteArray):ByteArray:=if ¬keysE L=0 then ⟨#[]⟩ else if ¬d.size % 3=0 then ⟨#[]⟩ else if 300<d.size then ⟨#[]⟩ else strOfNums (runS L (nums d) (d.size / 3)).2
def meetS (A B:List Int) (s:ByteArray):Nat→List Int×List Int×ByteArray
 | 0=>(A,B,s)
 | n+1=>if n % 2=1 then (takeL (meetS A B s n).1 (meetS A B s n).2.2,(meetS A B s n).2.1,takeS (meetS A B s n).1 (meetS A B s n).2.2) else ((meetS A B s n).1,takeL (meetS A B s n).2.1 (meetS A B s n).2.2,takeS (meetS A B s n).2.1 (meetS A B s n).2.2)
def Stop (A B:List Int) (s:ByteArray) (N:Nat):Prop:=N≤10∧(N=10∨(meetS A B s N).2.2=⟨#[]⟩)∧∀k,k<N→¬(meetS A B s k).2.2=⟨#[]⟩
end
end Go.Proofs.YtmmnimagbnlcmaaGreatDoor
namespace Go.Fw
def wds (X:List Int):List Value:=X.map (Value.int .u64)
def negC (W X:List Int):List Value:=octs W++wds X
abbrev negV (W X:List Int):Value:= .agg (negC W X).toArray
theorem AL9 {W X:List Int} (hW:W.length=512) (hX:X.length=8):(negC W X).length=520:=by simp [negC,octs,wds,hW,hX]
theorem Ap1 {W:List Int} (X:List Int) (hW:W.length=512) (f:Nat) (hf:f<512):(negC W X)[f]? =some (.int .u8 (W.getD f 0)):=by
 unfold negC
 rw[List.getElem?_append_left (by rw[AC7];omega)]
 exact AZ1 W f (by omega)
def negOk (W:List Int):Bool:=(List.range 512).all fun j=>decide (0≤W.getD j 0∧W.getD j 0≤5)
def negE (W:List Int):Int:=if negOk W=true then 0 else 4
theorem Bg1 {W:List Int} (j:Nat) (hj:j<512) (h:¬(0≤W.getD j 0∧W.getD j 0≤5)):negE W=4:=by
 unfold negE
 rw[if_neg]
 intro e
 have:=List.all_eq_true.1 e j (List.mem_range.2 hj)
 exact h (of_decide_eq_true this)
theorem Bv5 {W:List Int} (h:∀j,j<512→0≤W.getD j 0∧W.getD j 0≤5):negE W=0:=by
 unfold negE
 rw[if_pos]
 exact List.all_eq_true.2 fun j hj=>decide_eq_true (h j (List.mem_range.1 hj))
attribute [irreducible] negE
end Go.Fw
namespace Go.Proofs.YtmmnimagbnlcmaaGreatDoor
section
attribute [local irreducible] SW SL SQ AtQ SV SC BB LD PK Yields SO SOT SOA SY SP SPT SPA
theorem A31 {W:List Int} (X:List Int) (hW:W.length=512) (k:Nat) (hk:k+256≤512):take? ((negC W X).drop k) 256=some (octs ((W.drop k).take 256)):=by
 unfold negC
 rw[AT3 _ _ (by simp [octs,wds];omega),List.drop_append_of_le_length (by rw[AC7];omega),List.take_append_of_le_length (by simp [octs];omega)]
 simp [octs,List.map_take,List.map_drop]
end
end Go.Proofs.YtmmnimagbnlcmaaGreatDoor
