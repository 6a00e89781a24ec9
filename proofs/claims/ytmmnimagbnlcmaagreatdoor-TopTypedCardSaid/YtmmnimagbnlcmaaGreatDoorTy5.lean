/- Texts of this claim, merged: Sorts2 EnvP IdxG Slc About Slc2 Num IdxF NvtQ AnsP Trm ArgP Arg2 CardN Mask TabP TabU Width. -/
import Derived.Test.YtmmnimagbnlcmaaGreatDoorTy4
import Derived.WalkKit
import Derived.WalkSpells
import Derived.WalkLawsBesides
import Derived.Handy
import Derived.Lib.Hide
import Derived.Laws.BitsAllLaws
import Derived.Deep.MidRow
import Derived.Deep.WholeRow
import Derived.BigQuiet
import Derived.Laws.CopyOwn
import Derived.Deep.QuietTactic
import Derived.Laws.AppendOwnNone
import Derived.Laws.MakeOwn
import Derived.Laws.IdiomStrings
import Derived.OrdersHeld
import Derived.Lib.SliceRun
import Derived.ChangeKeysEq
import Derived.Laws.CopyRow
import Derived.Test.YtmmnimagbnlcmaaGreatDoorRows
import Derived.Lib.Replace
import Derived.Lib.AppendStr
import Derived.ArgAppend
import Derived.Shelf.Strings.Builder1
import Derived.Shelf.Strings.Builder2
import Derived.Shelf.Strings.OnBuilder
import Derived.Shelf.Strings.Trim
import Derived.Shelf.Small.Utf8
import Derived.Shelf.Small.Strs
import Derived.Shelf.Strings.BuilderF
import Derived.Shelf.Strconv.Itoa0
import Derived.Shelf.Strconv.Itoa1
import Derived.Shelf.LaysM
import Derived.Shelf.Strconv.Itoa2
import Derived.Shelf.Strconv.Itoa3
import Derived.Shelf.Strings.Search1
import Derived.Shelf.Strings.Search2
import Derived.Shelf.Strings.Search3
import Derived.Shelf.Strings.Count
import Derived.Shelf.Strings.Shaped
import Derived.Shelf.Strings.LastIndex
import Derived.Shelf.Strings.Prefix
import Derived.Shelf.Strings.Split
import Derived.Shelf.Strings.Replace
import Derived.Shelf.Strings.SplitShaped
import Derived.Shelf.Strings.Runes
import Derived.Shelf.Strings.AsciiSet
import Derived.Shelf.Bits.Mul64
import Derived.Shelf.Strings.Repeat
import Derived.Shelf.Unicode.DecodeSlow
import Derived.Shelf.Unicode.DecodeAny
import Derived.Shelf.Unicode.ValidAny
import Derived.Test.YtmmnimagbnlcmaaGreatDoorProg
import Derived.Lib.ItoaNum
import Derived.Lib.IndexMore
import Derived.Lib.Join
import Derived.Lib.IndexLaws
import Derived.Lib.SplitLaws
import Derived.Lib.AppendIntMem
import Derived.ProofKit
import Derived.OpenShut
import Derived.JoinedCond
import Derived.SliceStrings
import Derived.Test.YtmmnimagbnlcmaaGreatDoorCards
import Derived.Test.YtmmnimagbnlcmaaGreatDoorTie
import Derived.Deep.DeepHandedRow
import Derived.Shelf.Vars
import Derived.Lib.LaidU8
import Derived.StillTailTactics
import Derived.RegionTactic
import Derived.ChangeAlike
set_option maxRecDepth 100000
set_option maxHeartbeats 8000000
open Go Go.RowKit Go.Fw Go.Sx
namespace Go.Proofs.YtmmnimagbnlcmaaGreatDoor
section
attribute [local irreducible] SW SL SQ AtQ SV SC BB LD PK Yields SO SOT SOA SY SP SPT SPA
theorem A58 {s:ByteArray} {i:Nat} (hi:i<s.size) (h:¬(33≤(nums s).getD i 0∧(nums s).getD i 0≤126)):nameB s=false:=by
 unfold nameB
 rw[Bool.and_eq_false_iff]
 right
 rw[List.all_eq_false]
 have hl:i<(nums s).length:=by rw[nums_length];exact hi
 refine⟨(nums s)[i],List.getElem_mem hl,?_⟩
 have e:(nums s).getD i 0=(nums s)[i]:=by simp [List.getD,List.getElem?_eq_getElem hl]
 rw[e] at h
 simp [Ab8]
 omega
theorem BH0 {s:ByteArray} (h:∀i,i<s.size→33≤(nums s).getD i 0∧(nums s).getD i 0≤126):nameB s=decide (1≤s.size∧s.size≤40):=by
 unfold nameB
 have:(nums s).all Ab8=true:=by
  rw[List.all_eq_true]
  intro x hx
  obtain⟨i,hi,rfl⟩:=List.getElem_of_mem hx
  have:=h i (by rw[←nums_length];exact hi)
  have e:(nums s).getD i 0=(nums s)[i]:=by simp [List.getD,List.getElem?_eq_getElem hi]
  rw[e] at this
  simpa [Ab8] using this
 rw[this,Bool.and_true]
theorem Br5 (G:Ctx) (H:List Ent) (s:ByteArray) (hz:s.size≤maxLen):SV Tryz.prog G 87 [.string s] H (.bool (nameB s)):=by
 have hz':s.size≤9223372036854775807:=hz
 clear hz
 refine P8 Tryz.func87 O O O O O ?_
 repeat' (first|(apply E8;first|(apply A8;refine A9 ?_)|(apply C8;refine D7 O O ?_)|(apply D5;refine D9 O O ?_)|(apply K5;refine s_call (U2 O O) O ?_))|(apply D6)|(apply F3)|(apply A7)|(apply C9))
 refine R7 (α:=Nat) (fun i=>[(0,.string s),(5,.int .i64 s.size),(6,.int .i64 i)]) (fun _=>H)
  (fun i=>i≤s.size∧∀j,j<i→33≤(nums s).getD j 0∧(nums s).getD j 0≤126) (fun i=>s.size-i) 0 ⟨Nat.zero_le _,fun j hj=>absurd hj (Nat.not_lt_zero _)⟩ Q7 J3 ?_
 rintro i ⟨hi,hs⟩
 have Hs:=Lib.hid hs
 clear hs
 repeat' (first|(apply E8;first|(apply A8;refine A9 ?_)|(apply C8;refine D7 O O ?_)|(apply E5;refine F7 O O O ?_;first|(refine AM3 ?_)|(first|(apply K9;refine L6 ⟨by omega,by omega⟩ ?_)|refine F9 O ?_))|(apply D5;refine D9 O O ?_)|(apply I6;refine J4 O O ?_;first|(apply P7;refine P6 O ?_)|(apply M6;refine M7 O ?_))|(apply V5;refine Y5 (y9 O O O (by omega) (by omega)) O ?_)|(apply K5;refine s_call (U2 O O) O ?_)|(apply I5;refine J9 O O O O ?_;first|(apply I1)|(apply H7)|(apply d9)|(apply P5<;>intro hq<;>(try (exfalso;omega)))|(apply AF5<;>intro hq)))|(apply D6)|(apply G8)|(apply I4)|(apply O7)|(apply F3)|(apply A7)|(refine G5 O ?_;first|(apply I1)|(apply E9<;>intro hq<;>(try (exfalso;omega))))|(apply C9)|(apply J8)|(apply K3)|(apply H9)|(apply U5)|(apply K4))
 ·refine N7 (by (exact .inr O)) O O0 ?_
  rw[A58 (i:=i) (by omega) (by rw[Int.toNat_natCast] at hq;omega)];rfl
 ·refine J6 (i+1) ⟨⟨by omega,fun j hj=>?_⟩,by omega⟩ Q7 J3
  rcases Nat.lt_or_ge j i with h|h
  ·exact Hs.out j h
  ·obtain rfl:j=i:=by omega
   rw[Int.toNat_natCast] at *
   omega
 ·refine N7 (by (exact .inr O)) O O0 ?_
  rw[A58 (i:=i) (by omega) (by rw[Int.toNat_natCast] at hq;omega)];rfl
 ·obtain rfl:i=s.size:=by omega
  refine N7 (by (exact .inr O)) O O0 ?_
  rw[BH0 Hs.out]
  refine congrArg Value.bool ?_
  have h1:1≤s.size:=Nat.pos_of_ne_zero fun h0=>of_decide_eq_false (by assumption) (A08 h0)
  rw[decide_eq_decide]
  omega
 ·obtain rfl:i=s.size:=by omega
  refine N7 (by (exact .inr O)) O O0 ?_
  rw[BH0 Hs.out]
  have h1:s=⟨#[]⟩:=of_decide_eq_true (by assumption)
  rw[h1]
  rfl
theorem Bv4 (xs:List ByteArray) (k:Nat) (h:k<xs.length):(strs xs)[(k:Int).toNat * 1]? =some (.string (xs.getD k ByteArray.empty)):=by
 simp [strs,List.getD,List.getElem?_eq_getElem h]
theorem BL0 (ts:List ByteArray) (q m:Nat) (l h:Int) (hl:l=q) (hh:h=q+m):((strs ts).drop (l.toNat * 1)).take ((h.toNat-l.toNat) * 1)=strs ((ts.drop q).take m):=by
 rw[show l.toNat * 1=q from by omega,show (h.toNat-l.toNat) * 1=m from by omega]
 simp [strs,List.map_take,List.map_drop]
abbrev BZ2 (a:Option Addr) (n c:Nat) (t:Int):Value:= .agg #[.slice a n c,.int .i64 t]
theorem BP8 (G:Ctx) (H:List Ent) (xs:List ByteArray) (y:ByteArray) {vs:List Value} (a:Option Addr) (n c:Nat) [h1:RdC G H a vs] (hv:vs=strs xs) (hn:n=xs.length) (hm:xs.length≤maxLen):SV Tryz.prog G 88 [.slice a n c,.string y] H (.bool (AC0 xs y)):=by
 subst hv
 exact u6 (l8 Tryz.func88 O O) fun w hw=>BJ9 xs y a n c w hn hm (h1.here w hw)
theorem Ad2 (G:Ctx) (H:List Ent) (l:List ByteArray) (a:Option Addr) (n c:Nat) (t:Int) (hn:n=l.length) (hz:∀x∈l,x.size≤maxLen) (hm:n≤maxLen) [RdC G H a (strs l)] [hC:CapC G H a n c]:SV Tryz.prog G 48 [BZ2 a n c t] H (.int .i64 (AK2 l t)):=by
 refine B08 (l8 Tryz.func48 O O) fun w0 hw0=>?_
 have hnc:=hC.here w0 hw0
 clear hw0 hC
 have hm':n≤9223372036854775807:=hm
 have hx:∀k,k<n→(strs l)[(k:Int).toNat * 1]? =some (.string (l.getD k ByteArray.empty)):=fun k hk=>Bv4 l k (by rw[←hn];exact hk)
 have hlx:(strs l).length=n * 1:=by simp [strs,hn]
 have htk:=fun m (h:m≤n)=>(show m=((l.drop 0).take m).length from by simp [←hn];omega)
 have hzk:∀k,k<n→(l.getD k ByteArray.empty).size≤maxLen:=fun k hk=>by
  have hk':k<l.length:=by rw[←hn];exact hk
  have e:l.getD k ByteArray.empty=l[k]:=by simp [List.getD,List.getElem?_eq_getElem hk']
  rw[e];exact hz _ (List.getElem_mem hk')
 have hok:∀k,k<n→okAt l k=(nameB (l.getD k ByteArray.empty)&&!AC0 (l.take k) (l.getD k ByteArray.empty)):=fun k hk=>Bo0 l k (by rw[←hn];exact hk)
 have Hn:=Lib.hid hn
 have Hx:=Lib.hid hx
 have Htk:=Lib.hid htk
 have Hzk:=Lib.hid hzk
 have Hok:=Lib.hid hok
 have Hm:=Lib.hid hm
 clear hn hx htk hzk hok hm hz
 refine P8 Tryz.func48 O O O O O ?_
 repeat' (first|(apply E8;first|(apply A8;refine A9 ?_)|(apply C8;refine D7 O O ?_)|(apply E5;refine F7 O O O ?_;refine F9 O ?_)|(apply F5;refine F8 O O ?_;refine F4 O ?_)|(apply D5;refine D9 O O ?_)|(apply I6;refine J4 O O ?_;first|(apply P7;refine P6 O ?_)|(apply M6;refine M7 O ?_))|(apply G6;refine G7 (D8 O O) O ?_)|(apply K5;refine s_call (S9 O O) O ?_)|(apply K6;refine L9 O O O O O O (fun _=>?_))|(apply I5;refine J9 O O O O ?_;first|(apply I1)|(apply d9)|(apply P5<;>intro hq<;>(try (exfalso;omega)))))|(apply D6)|(apply G8)|(apply I4)|(apply F3)|(apply A7)|(refine G5 O ?_;first|(apply I1)|(apply E9<;>intro hq<;>(try (exfalso;omega))))|(apply C9)|(apply J8))
 ·refine N7 (by (exact .inr O)) O O0 ?_
  rw[An0 (by rw[←Hn.out];omega)];rfl
 ·rename_i b h1
  refine R7 (α:=Nat) (fun i=>[(1,.pointer (some ⟨b,0,none⟩)),(16,.slice a n c),(17,.int .i64 n),(18,.int .i64 i)]) (fun _=> .blk b 47 [.slice a n c,.int .i64 t]::H)
   (fun i=>i≤n∧okAll l i=true) (fun i=>n-i) 0 ⟨Nat.zero_le _,BJ4 l⟩ Q7 J3 ?_
  rintro i ⟨hi,ho⟩
  by_cases hlt:(i:Int)<n
  ·have hx:=Hx.out i (by omega)
   have hok:=Hok.out i (by omega)
   have Hok1:=Lib.hid hok
   clear hok
   repeat' (first|(apply E8;first|(apply A8;refine A9 ?_)|(apply C8;refine D7 O O ?_)|(apply E5;refine F7 O O O ?_;first|(apply K9;refine L6 ⟨by omega,by omega⟩ ?_)|refine F9 O ?_)|(apply F5;first|(refine F8 O O ?_;refine F4 O ?_)|(refine F8 O O ?_;refine X8 hx ?_))|(apply D5;refine D9 O O ?_)|(apply I6;refine J4 O O ?_;first|(apply P7;refine P6 O ?_)|(apply M6;refine M7 O ?_))|(apply G6;refine G7 (D8 O O) O ?_)|(apply X5;refine Z9 (Z8 O O O) O ?_)|(apply M4;refine M8 (K7 O O O hlx (by omega) (by omega)) O ?_)|(apply H5;first|refine H6 O O O (Br5 _ _ _ (Hzk.out i (by omega))) O O ?_ |refine H6 O O O (BP8 _ _ ((l.drop 0).take i) _ _ _ _ (BL0 l 0 i _ _ O (by omega)) (by have:=Htk.out i (by omega);omega) (by have:=Htk.out i (by omega);have:=Hm.out;omega)) O O ?_)|(apply r9;refine AH5 (Hr:=H) O O O O O RdC.here hlx (by omega) (by omega) (by omega) (by omega) O O (fun _ _=>?_))|(apply I5;refine J9 O O O O ?_;first|(apply I1)|(apply d9)|(apply Ac3<;>intro hq)))|(apply D6)|(apply G8)|(apply I4)|(apply F3)|(apply A7)|(refine G5 O ?_;first|(apply I1)|(apply E9<;>intro hq<;>(try (exfalso;omega)))|(apply A30<;>intro hq))|(apply C9)|(apply J8)|(apply H9)|(apply U5))
   all_goals first
    | (have ho2:okAt l i=false:=by rw[Hok1.out,show nameB (l.getD i ByteArray.empty)=false from by assumption];rfl
       refine N7 (by (exact .inr O)) O O0 ?_
       rw[Ap8 (by rw[←Hn.out];omega) (Ax3 ho2 (by rw[←Hn.out];omega))];rfl)
    | (have ho2:okAt l i=false:=by rw[Hok1.out,show AC0 (l.take i) (l.getD i ByteArray.empty)=true from by assumption];simp
       refine N7 (by (exact .inr O)) O O0 ?_
       rw[Ap8 (by rw[←Hn.out];omega) (Ax3 ho2 (by rw[←Hn.out];omega))];rfl)
    | (have ho2:okAt l i=true:=by rw[Hok1.out,show nameB (l.getD i ByteArray.empty)=true from by assumption,show AC0 (l.take i) (l.getD i ByteArray.empty)=false from by assumption];rfl
       exact J6 (i+1) ⟨⟨by omega,by rw[BM8,ho,ho2];rfl⟩,by omega⟩ (by repeat (first|exact Le.nil _|refine Le.cons (by first|rfl|(exact congrArg some (congrArg (Value.int _) (by omega)))) ?_)) J3)
  ·repeat' (first|(apply E8;first|(apply A8;refine A9 ?_)|(apply C8;refine D7 O O ?_)|(apply E5;refine F7 O O O ?_;refine F9 O ?_)|(apply F5;refine F8 O O ?_;refine F4 O ?_)|(apply D5;refine D9 O O ?_)|(apply I6;refine J4 O O ?_;first|(apply P7;refine P6 O ?_)|(apply M6;refine M7 O ?_))|(apply G6;refine G7 (D8 O O) O ?_)|(apply K5;refine s_call (S9 O O) O ?_)|(apply I5;refine J9 O O O O ?_;first|(apply I1)|(apply d9)|(apply P5<;>intro hq<;>(try (exfalso;omega)))))|(apply D6)|(apply G8)|(apply I4)|(apply O7)|(apply A7)|(refine G5 O ?_;first|(apply I1)|(apply E9<;>intro hq<;>(try (exfalso;omega))))|(apply C9)|(apply J8)|(apply K3)|(apply K4))
   all_goals obtain rfl:i=n:=by omega
   all_goals rw[Hn.out] at ho
   all_goals refine N7 (by (exact .inr O)) O O0 ?_
   all_goals first
    | (rw[BT3 (by rw[←Hn.out];omega) ho (by rw[←Hn.out];omega)];rfl)
    | (rw[BQ1 (by rw[←Hn.out];omega) ho (by rw[←Hn.out];omega)];rfl)
 ·refine N7 (by (exact .inr O)) O O0 ?_
  rw[An0 (by rw[←Hn.out];omega)];rfl
end
end Go.Proofs.YtmmnimagbnlcmaaGreatDoor
namespace Go.Fw
abbrev Vr:=ByteArray×ByteArray×Bool×Bool
def vrC (v:Vr):List Value:=[.string v.1,.string v.2.1,.bool v.2.2.1,.bool v.2.2.2]
instance :En vrC 4:=⟨fun _=>rfl⟩
abbrev vrV (v:Vr):Value:= .agg (vrC v).toArray
def vrs (L:List Vr):List Value:=L.flatMap vrC
@[simp] theorem Bv7 (L:List Vr):(vrs L).length=L.length * 4:=AZ2 L
theorem Bw5 (L:List Vr):(vrs L).all (·.oneCell')=true:=BO9 L fun _=>rfl
def escI (l:List Int):List Int:=l.flatMap fun x=>if x≤3 then [2,x] else [x]
theorem Bd2 (l m:List Int):escI (l++m)=escI l++escI m:=by simp [escI]
theorem AV7 (l:List Int):(escI l).length≤2 * l.length:=by
 unfold escI
 induction l with
 | nil=>exact Nat.le_refl _
 | cons b l ih=>
   rw[List.flatMap_cons,List.length_append,List.length_cons]
   have:(if b≤3 then [2,b] else [b]).length≤2:=by split<;>simp
   omega
def vI (v:Vr):List Int:=(if v.2.2.1 then 3 else 0)::(escI (nums v.1)++(if v.2.2.2 then 1::escI (nums v.2.1) else []))
def varsI (L:List Vr):List Int:=L.flatMap vI
theorem Aq3 (L:List Vr) (v:Vr):varsI (L++[v])=varsI L++vI v:=by simp [varsI]
def AK4 (L:List Vr):Prop:=20<L.length∨(L.any fun v=>decide (200<v.1.size)||decide (200<v.2.1.size))=true
instance (L:List Vr):Decidable (AK4 L):=by unfold AK4;infer_instance
def formV (v:Vr):Bool:=!v.2.2.2&&decide (v.2.1≠⟨#[]⟩)
def AG9 (L:List Vr):ByteArray×Int:=
 if AK4 L then (⟨#[]⟩,2) else if L.any formV then (⟨#[]⟩,4) else (strOfNums (varsI L),0)
theorem A42 {L:List Vr} (h:AK4 L):AG9 L=(⟨#[]⟩,2):=if_pos h
theorem BB7 {L:List Vr} (h:¬AK4 L) (h2:L.any formV=true):AG9 L=(⟨#[]⟩,4):=by unfold AG9;rw[if_neg h,if_pos h2]
theorem Ba3 {L:List Vr} (h:¬AK4 L) (h2:L.any formV=false):AG9 L=(strOfNums (varsI L),0):=by unfold AG9;rw[if_neg h,if_neg (by rw[h2];decide)]
def wordI:List Int→List Int×List Int
 | []=>([],[])
 | [x]=>if x≤3 then ([],[x]) else ([x],[])
 | x::y::l=>if x=2 then (y::(wordI l).1,(wordI l).2) else if x≤3 then ([],x::y::l) else (x::(wordI (y::l)).1,(wordI (y::l)).2)
def Aq0:List Int→Option (List Int×List Int)
 | []=>some ([],[])
 | [x]=>if x=2 then none else if x≤3 then some ([],[x]) else some ([x],[])
 | x::y::l=>if x=2 then (if y>3 then none else (Aq0 l).map fun p=>(y::p.1,p.2)) else if x≤3 then some ([],x::y::l) else (Aq0 (y::l)).map fun p=>(x::p.1,p.2)
def stepW (l:List Int):Option (Vr×List Int):=
 match l with
 | []=>none
 | x::l=>if x≠0∧x≠3 then none else
   let p:=wordI l
   if p.2[0]? =some 1 then let q:=wordI (p.2.drop 1);some ((strOfNums p.1,strOfNums q.1,decide (x=3),true),q.2)
   else some ((strOfNums p.1,⟨#[]⟩,decide (x=3),false),p.2)
def stepP (l:List Int):Option (Vr×List Int):=
 match l with
 | []=>none
 | x::l=>if x≠0∧x≠3 then none else
   match Aq0 l with
   | none=>none
   | some p=>if p.2[0]? =some 1 then match Aq0 (p.2.drop 1) with
      | none=>none
      | some q=>some ((strOfNums p.1,strOfNums q.1,decide (x=3),true),q.2)
     else some ((strOfNums p.1,⟨#[]⟩,decide (x=3),false),p.2)
def many (st:List Int→Option (Vr×List Int)):Nat→List Int→Option (List Vr)
 | _,[]=>some []
 | 0,_::_=>none
 | m+1,x::l=>match st (x::l) with
   | none=>none
   | some (v,r)=>(many st m r).map (v:: ·)
def gIdx {α:Type} (p:α→Bool) (L:List α):Int:=if L.any p then (L.findIdx p:Nat) else-1
theorem Bv8 {α:Type} {p:α→Bool} {L:List α} {j:Nat} {x:α} (hx:L[j]? =some x) (h:p x=true) (hb:∀y∈L.take j,p y=false):gIdx p L=j:=by
 obtain⟨hj,rfl⟩:=List.getElem?_eq_some_iff.1 hx
 have ha:L.any p=true:=List.any_eq_true.2 ⟨L[j],List.getElem_mem hj,h⟩
 have hf:L.findIdx p=j:=by
  rw[List.findIdx_eq hj]
  refine⟨h,fun i hi=>?_⟩
  have:L[i]'(by omega)∈L.take j:=by
   rw[List.mem_take_iff_getElem]
   exact⟨i,by omega,rfl⟩
  have h2:=hb _ this
  simpa using h2
 unfold gIdx
 rw[if_pos ha,hf]
theorem Br2 {α:Type} {p:α→Bool} {L:List α} (hb:∀y∈L,p y=false):gIdx p L= -1:=by
 unfold gIdx
 rw[show L.any p=false from by rw[←Bool.not_eq_true,List.any_eq_true];rintro ⟨x,hx,h⟩;rw[hb x hx] at h;cases h]
 rfl
theorem B04 {α:Type} (p:α→Bool) (L:List α):decide (0≤gIdx p L)=L.any p:=by
 unfold gIdx
 cases L.any p<;>simp
theorem A37 {α:Type} {p:α→Bool} {L:List α} {j:Nat} {x:α} (hx:L[j]? =some x) (h:p x=false) (hb:∀y∈L.take j,p y=false):∀y∈L.take (j+1),p y=false:=by
 obtain⟨hj,rfl⟩:=List.getElem?_eq_some_iff.1 hx
 intro y hy
 rw[List.take_succ_eq_append_getElem hj,List.mem_append] at hy
 rcases hy with hy|hy
 ·exact hb y hy
 ·simp only[List.mem_singleton] at hy;subst hy;exact h
end Go.Fw
namespace Go.Proofs.YtmmnimagbnlcmaaGreatDoor
section
attribute [local irreducible] SW SL SQ AtQ SV SC BB LD PK Yields SO SOT SOA SY SP SPT SPA
theorem BM5 (G:Ctx) (H:List Ent) (f:Nat) (caps:List Value) (p:Vr→Bool) (L:List Vr) {vs:List Value} (a:Option Addr) (n c:Nat) [h1:RdC G H a vs] (hv:vs=vrs L) (hn:n=L.length) (hm:L.length≤maxLen) (hf:∀x,x∈L→SV Tryz.prog G f (vrV x::caps) H (.bool (p x))):SV Tryz.prog G 143 [.slice a n c,.func (.func f) #[] caps.toArray] H (.int .i64 (gIdx p L)):=by
 have Hn:=Lib.hid hn
 have hbn:n≤9223372036854775807:=by unfold maxLen at hm;omega
 have hix:∀(k:Nat) x,L[k]? =some x→take? (vs.drop ((k:Int).toNat * 4)) 4=some (vrC x):=fun k x hk=>by subst hv;exact Ah9 hk
 have hlx:vs.length=n * 4:=by subst hv;simp [hn]
 have hfk:∀(k:Nat) x,L[k]? =some x→SV Tryz.prog G f (vrV x::caps) H (.bool (p x)):=fun k x hk=>hf x (List.mem_of_getElem? hk)
 have Hix:=Lib.hid hix
 have Hfk:=Lib.hid hfk
 clear hix hf hfk hn hm hv
 refine R3 Tryz.func143 O O O O O ?_
 repeat' (first|(apply E8;first|(apply A8;refine A9 ?_)|(apply C8;refine D7 O O ?_)|(apply D5;refine D9 O O ?_)|(apply K5;refine s_call (S9 O O) O ?_))|(apply D6)|(apply F3)|(apply A7)|(apply C9))
 refine R7 (α:=Nat) (fun j=>[(0,.slice a n c),(1,.func (.func f) #[] caps.toArray),(7,.int .i64 n),(8,.int .i64 j)]) (fun _=>H)
  (fun j=>j≤n∧∀y∈L.take j,p y=false) (fun j=>n-j) 0 ⟨Nat.zero_le _,fun y hy=>by simp at hy⟩ Q7 J3 ?_
 rintro j ⟨hj,hs⟩
 have Hs:=Lib.hid hs
 clear hs
 by_cases hlt:(j:Int)<n
 ·obtain⟨x,hx⟩:=AC3 (X:=L) (k:=j) (by rw[←Hn.out];omega)
  have hxj:=Hix.out j x hx
  have hc:=Hfk.out j x hx
  have Hx:=Lib.hid hx
  clear hx
  cases hp:p x
  ·rw[hp] at hc
   repeat' (first|(apply E8;first|(apply A8;refine A9 ?_)|(apply C8;refine D7 O O ?_)|(apply E5;refine F7 O O O ?_;first|(apply K9;refine L6 ⟨by omega,by omega⟩ ?_)|refine F9 O ?_)|(apply F5;refine F8 O O ?_;refine l6 hxj O ?_)|(apply D5;refine D9 O O ?_)|(apply M4;refine M8 (K7 O O O hlx (by omega) (by omega)) O ?_)|(refine AH8 O O O O hc O O ?_))|(apply D6)|(apply G8)|(apply F3)|(apply A7)|(refine G5 O ?_;first|(apply H7)|(apply E9<;>intro hq<;>(try (exfalso;omega))))|(apply C9)|(apply H9))
   exact J6 (j+1) ⟨⟨by omega,A37 Hx.out hp Hs.out⟩,by omega⟩ Q7 J3
  ·rw[hp] at hc
   repeat' (first|(apply E8;first|(apply A8;refine A9 ?_)|(apply C8;refine D7 O O ?_)|(apply E5;refine F7 O O O ?_;refine F9 O ?_)|(apply F5;refine F8 O O ?_;refine l6 hxj O ?_)|(apply D5;refine D9 O O ?_)|(apply M4;refine M8 (K7 O O O hlx (by omega) (by omega)) O ?_)|(refine AH8 O O O O hc O O ?_))|(apply D6)|(apply G8)|(apply I4)|(apply F3)|(apply A7)|(refine G5 O ?_;first|(apply I1)|(apply E9<;>intro hq<;>(try (exfalso;omega))))|(apply C9)|(apply J8)|(apply U5))
   refine N7 (by (exact .inr O)) O O0 ?_
   rw[Bv8 Hx.out hp Hs.out]
   rfl
 ·obtain rfl:j=n:=by omega
  repeat' (first|(apply E8;first|(apply A8;refine A9 ?_)|(apply E5;refine F7 O O O ?_;refine F9 O ?_)|(apply D5;refine D9 O O ?_))|(apply D6)|(apply I4)|(apply O7)|(apply A7)|(refine G5 O ?_;apply E9<;>intro hq<;>(try (exfalso;omega)))|(apply C9)|(apply K3)|(apply K4))
  refine N7 (by (exact .inr O)) O O0 ?_
  rw[Br2 (by rw[Hn.out,List.take_length] at Hs;exact Hs.out)]
  rfl
theorem An2 (G:Ctx) (H:List Ent) (f:Nat) (caps:List Value) (p:Vr→Bool) (L:List Vr) {vs:List Value} (a:Option Addr) (n c:Nat) [h1:RdC G H a vs] (hv:vs=vrs L) (hn:n=L.length) (hm:L.length≤maxLen) (hf:∀x,x∈L→SV Tryz.prog G f (vrV x::caps) H (.bool (p x))):SV Tryz.prog G 89 [.slice a n c,.func (.func f) #[] caps.toArray] H (.bool (L.any p)):=by
 have hc:=BM5 G H f caps p L a n c hv hn hm hf
 rw[←B04]
 generalize gIdx p L=r at *
 clear hf
 refine R3 Tryz.func89 O O O O O ?_
 repeat' (first|(apply E8;first|(apply A8;refine A9 ?_)|(apply C8;refine D7 O O ?_)|(apply E5;refine F7 O O O ?_;refine F9 O ?_)|(apply D5;refine D9 O O ?_)|(apply H5;refine H6 O O O (hc) O O ?_))|(apply D6)|(apply I4)|(apply A7)|(apply C9))
 refine N7 (by (exact .inr O)) O O0 ?_
 (exact Al2 (by omega))
end
end Go.Proofs.YtmmnimagbnlcmaaGreatDoor
namespace Go.Fw
def kLv (L:List Int) (f:Nat):Int:=L.getD f 0
def kCh (L:List Int) (f:Nat):Int:=L.getD (19+f) 0
def kSet (L:List Int) (f:Nat) (x y:Int):List Int:=(L.set f x).set (19+f) y
def Oct (x:Int):Prop:=0≤x∧x≤255
def keyOk (L:List Int):Bool:=(List.range 19).all fun j=>decide (kLv L j≤2)
def keysE (L:List Int):Int:=if keyOk L=true∧kLv L 0=0∧kCh L 0=0 then 0 else 4
def tripS (L:List Int) (f g c:Int):List Int×List Int:=
 if ¬(1≤f∧f≤18) then (if 128≤g then (L,[]) else (L,[f,0,0]))
 else if g % 4=kLv L f.toNat∧c=kCh L f.toNat then (L,[])
 else if 128≤g then (if g % 4=3 then (L,[]) else (kSet L f.toNat (g % 4) c,[]))
 else if g % 4=0 then (kSet L f.toNat 0 c,[f,128,c])
 else if g % 4=3 then (L,[f,kLv L f.toNat,kCh L f.toNat])
 else if kLv L f.toNat=1∧g % 4=1 then (kSet L f.toNat 0 0,[f,0,0])
 else if kLv L f.toNat=1 then (L,[f,1,kCh L f.toNat])
 else (kSet L f.toNat (g % 4) c,[f,128+g % 4,c])
theorem Bd6 {L:List Int} (h:∀x∈L,Oct x) (k:Nat):Oct (L.getD k 0):=by
 rcases Nat.lt_or_ge k L.length with hk|hk
 ·have e:L.getD k 0=L[k]:=by simp [List.getD,List.getElem?_eq_getElem hk]
  rw[e];exact h _ (List.getElem_mem hk)
 ·have e:L.getD k 0=0:=by simp [List.getD,List.getElem?_eq_none hk]
  rw[e];exact⟨by omega,by omega⟩
def runS (L D:List Int):Nat→List Int×List Int
 | 0=>(L,[])
 | i+1=>((tripS (runS L D i).1 (D.getD (3 * i) 0) (D.getD (3 * i+1) 0) (D.getD (3 * i+2) 0)).1,(runS L D i).2++(tripS (runS L D i).1 (D.getD (3 * i) 0) (D.getD (3 * i+1) 0) (D.getD (3 * i+2) 0)).2)
theorem Bc9 (L:List Int) (k:Nat) (v:Int):(octs L).set k (.int .u8 v)=octs (L.set k v):=by simp [octs,List.map_set]
theorem AZ1 (L:List Int) (k:Nat) (h:k<L.length):(octs L)[k]? =some (.int .u8 (L.getD k 0)):=by
 simp [octs,List.getD,List.getElem?_eq_getElem h]
theorem AC7 (L:List Int):(octs L).length=L.length:=by simp [octs]
theorem BU6 {L:List Int} {j:Nat} (hj:j<19) (h:¬kLv L j≤2):keysE L=4:=by
 unfold keysE keyOk
 rw[if_neg]
 rintro ⟨h1,-⟩
 rw[List.all_eq_true] at h1
 exact h (by simpa using h1 j (List.mem_range.2 hj))
theorem BZ5 {L:List Int} (h:∀j,j<19→kLv L j≤2):keysE L=if kLv L 0=0∧kCh L 0=0 then 0 else 4:=by
 unfold keysE keyOk
 have:((List.range 19).all fun j=>decide (kLv L j≤2))=true:=by
  rw[List.all_eq_true]
  exact fun j hj=>by simpa using h j (List.mem_range.1 hj)
 rw[this]
 simp
end Go.Fw
namespace Go.Proofs.YtmmnimagbnlcmaaGreatDoor
theorem u8i:(Tryz.prog.info? 5).map (fun i=>(i.zero,i.size,i.bytes))=some (some (.int .u8 0),1,1):=by kernel_rfl
section
attribute [local irreducible] SW SL SQ AtQ SV SC BB LD PK Yields SO SOT SOA SY SP SPT SPA
abbrev keysV (L:List Int):Value:= .agg (octs L).toArray
theorem AT3:∀(l:List Value) (k:Nat),k≤l.length→take? l k=some (l.take k)
 | l,0,_=>by simp [take?]
 | [],k+1,h=>by simp at h
 | x::l,k+1,h=>by
   unfold take?
   rw[AT3 l k (by simpa using h)]
   rfl
theorem BL7 (L:List Int) (h:L.length=38):take? ((octs L).drop 0) 19=some (octs (L.take 19)):=by
 rw[List.drop_zero,AT3 _ _ (by rw[AC7];omega)]
 simp [octs,List.map_take]
theorem B17 (L:List Int) (h:L.length=38) (f:Int) (hf:0≤f∧f≤18):(octs L)[0+f.toNat * 1]? =some (.int .u8 (kLv L f.toNat)):=by
 rw[show 0+f.toNat * 1=f.toNat from by omega]
 exact AZ1 L _ (by omega)
theorem B00 (L:List Int) (h:L.length=38) (f:Int) (hf:0≤f∧f≤18):(octs L)[19+f.toNat * 1]? =some (.int .u8 (kCh L f.toNat)):=by
 rw[show 19+f.toNat * 1=19+f.toNat from by omega]
 exact AZ1 L _ (by omega)
theorem BC2 (G:Ctx) (H:List Ent) (L:List Int) (hL:L.length=38):SV Tryz.prog G 72 [keysV L] H (.int .i64 (keysE L)):=by
 have hp:=BL7 L hL
 have h0:=B17 L hL 0 ⟨by omega,by omega⟩
 have h1:=B00 L hL 0 ⟨by omega,by omega⟩
 have hj:∀j:Nat,j<19→(octs (L.take 19))[(j:Int).toNat]? =some (.int .u8 (kLv L j)):=fun j hj=>by
  rw[Int.toNat_natCast,AZ1 _ _ (by rw[List.length_take];omega)]
  unfold kLv
  simp only[List.getD_eq_getElem?_getD,List.getElem?_take_of_lt hj]
 have Hj:=Lib.hid hj
 clear hj
 refine P8 Tryz.func72 O O O O O ?_
 repeat' (first|(apply E8;first|(apply A8;refine A9 ?_)|(apply C8;refine D7 O O ?_)|(apply F5;refine F8 O O ?_;refine O9 hp O ?_)|(apply D5;refine D9 O O ?_)|(apply G6;refine G7 (D8 O O) O ?_)|(apply K6;refine L9 O O O O O O (fun _=>?_)))|(apply D6)|(apply F3)|(apply A7)|(apply C9))
 rename_i b
 refine R7 (α:=Nat) (fun j=>[(1,.pointer (some ⟨b,0,none⟩)),(6,.agg (octs (L.take 19)).toArray),(7,.int .i64 j)]) (fun _=> .blk b 51 (octs L)::H)
  (fun j=>j≤19∧∀i,i<j→kLv L i≤2) (fun j=>19-j) 0 ⟨Nat.zero_le _,fun i hi=>absurd hi (Nat.not_lt_zero _)⟩ Q7 J3 ?_
 rintro j ⟨hj,hs⟩
 have Hs:=Lib.hid hs
 clear hs
 by_cases hlt:(j:Int)<19
 ·have hv:=Hj.out j (by omega)
  repeat' (first|(apply E8;first|(apply A8;refine A9 ?_)|(apply C8;refine D7 O O ?_)|(apply E5;refine F7 O O O ?_;first|(apply K9;refine L6 ⟨by omega,by omega⟩ ?_)|refine F9 O ?_)|(apply D5;refine D9 O O ?_)|(apply V5;refine Y5 (AN1 O O O (by omega) (by omega) hv) O ?_))|(apply D6)|(apply G8)|(apply I4)|(apply F3)|(apply A7)|(refine G5 O ?_;apply E9<;>intro hq<;>(try (exfalso;omega)))|(apply C9)|(apply J8)|(apply H9)|(apply U5))
  ·refine N7 (by (exact .inr O)) O O0 ?_
   rw[BU6 (j:=j) (by omega) (by omega)];rfl
  ·refine J6 (j+1) ⟨⟨by omega,fun i hi=>?_⟩,by omega⟩ Q7 J3
   rcases Nat.lt_or_ge i j with h|h
   ·exact Hs.out i h
   ·obtain rfl:i=j:=by omega
    omega
 ·obtain rfl:j=19:=by omega
  have he:=BZ5 Hs.out
  repeat' (first|(apply E8;first|(apply A8;refine A9 ?_)|(apply C8;refine D7 O O ?_)|(apply E5;refine F7 O O O ?_;refine F9 O ?_)|(apply F5;refine F8 O O ?_;first|refine F4 h0 ?_ |refine F4 h1 ?_)|(apply D5;refine D9 O O ?_)|(apply I6;refine J4 O O ?_;first|(apply P7;refine P6 O ?_)|(apply M6;refine M7 O ?_))|(apply G6;refine G7 (D8 O O) O ?_)|(apply M4;refine M8 (l7 O O O (by omega) (by omega)) O ?_)|(apply I5;refine J9 O O O O ?_;first|(apply I1)|(apply d9)|(apply A12<;>intro hq<;>(try (exfalso;omega)))))|(apply D6)|(apply G8)|(apply I4)|(apply O7)|(apply A7)|(refine G5 O ?_;first|(apply I1)|(apply H7)|(apply Y7<;>intro hq<;>(try (exfalso;omega))))|(apply C9)|(apply J8)|(apply K3)|(apply K4))
  all_goals rw[show Int.toNat 0=0 from rfl] at *
  ·refine N7 (by (exact .inr O)) O O0 ?_
   rw[he,if_neg (by omega)];rfl
  ·refine N7 (by (exact .inr O)) O O0 ?_
   rw[he,if_pos (by omega)];rfl
  ·refine N7 (by (exact .inr O)) O O0 ?_
   rw[he,if_neg (by omega)];rfl
def numB (n:Nat):ByteArray:=⟨(Lib.decDigits n).toArray⟩
theorem Bl4 (n:Nat) (h:¬n<10):numB (n / 10)++numB (n % 10)=numB n:=by
 apply ByteArray.ext
 apply Array.ext'
 show (numB (n / 10)++numB (n % 10)).data.toList=Lib.decDigits n
 rw[ByteArray.data_append,Array.toList_append]
 show Lib.decDigits (n / 10)++Lib.decDigits (n % 10)=_
 rw[Lib.decDigits_one (show n % 10<10 by omega)]
 conv=>rhs;rw[Lib.decDigits]
 rw[dif_neg h]
theorem AR8:∀(k n:Nat),n<10 ^ (k+1)→(numB n).size≤k+1
 | 0,n,h=>by
   have e:(numB n).size=(Lib.decDigits n).length:=List.size_toArray
   rw[e,Lib.decDigits_one (by omega)]
   exact Nat.le_refl _
 | k+1,n,h=>by
   by_cases h10:n<10
   ·have e:(numB n).size=(Lib.decDigits n).length:=List.size_toArray
    rw[e,Lib.decDigits_one h10]
    simp
   ·rw[←Bl4 n h10,ByteArray.size_append]
    have h1:=AR8 k (n / 10) (by rw[Nat.pow_succ] at h;omega)
    have h2:=AR8 0 (n % 10) (by omega)
    omega
theorem Al6 (G:Ctx) (H:List Ent) (n:Nat) (h:n<100):SV Tryz.prog G 50 [.int .i64 n] H (.string (numB n)):=
 u6 (l8 Tryz.func50 rfl rfl) fun w _=>(Tryz.strconv_Itoa_small n h w).mono fun _ _ ⟨he,hw⟩=>⟨he,hw▸Below.refl _ _⟩
end
end Go.Proofs.YtmmnimagbnlcmaaGreatDoor
namespace Go.Fw
def fIdx (p:Int→Bool) (xs:List Int):Int:=if xs.any p then (xs.findIdx p:Nat) else-1
theorem B34 {p:Int→Bool} {xs:List Int} {j:Nat} (hj:j<xs.length) (h:p (xs.getD j 0)=true) (hb:∀i,i<j→p (xs.getD i 0)=false):fIdx p xs=j:=by
 have hm:xs.getD j 0=xs[j]:=by rw[List.getD_eq_getElem?_getD,List.getElem?_eq_getElem hj];rfl
 have ha:xs.any p=true:=List.any_eq_true.2 ⟨xs[j],List.getElem_mem hj,by rw[←hm];exact h⟩
 have hf:xs.findIdx p=j:=by
  rw[List.findIdx_eq hj]
  refine⟨by rw[←hm];exact h,fun i hi=>?_⟩
  have:=hb i hi
  rw[List.getD_eq_getElem?_getD,List.getElem?_eq_getElem (by omega:i<xs.length)] at this
  exact this
 unfold fIdx
 rw[if_pos ha,hf]
theorem B80 {p:Int→Bool} {xs:List Int} (hb:∀i,i<xs.length→p (xs.getD i 0)=false):xs.any p=false:=by
 rw[←Bool.not_eq_true,List.any_eq_true]
 rintro ⟨x,hx,h⟩
 obtain⟨i,hi,rfl⟩:=List.getElem_of_mem hx
 have:=hb i hi
 rw[List.getD_eq_getElem?_getD,List.getElem?_eq_getElem hi] at this
 rw[Option.getD_some] at this
 rw[this] at h
 cases h
theorem B29 {p:Int→Bool} {xs:List Int} (hb:∀i,i<xs.length→p (xs.getD i 0)=false):fIdx p xs= -1:=by
 unfold fIdx
 rw[B80 hb]
 rfl
theorem By5 (p:Int→Bool) (xs:List Int):decide (0≤fIdx p xs)=xs.any p:=by
 unfold fIdx
 cases xs.any p<;>simp
theorem Al1 {xs:List Int} {j:Nat} (hj:j<xs.length):xs.getD j 0∈xs:=by
 rw[List.getD_eq_getElem?_getD,List.getElem?_eq_getElem hj]
 exact List.getElem_mem hj
end Go.Fw
namespace Go.Proofs.YtmmnimagbnlcmaaGreatDoor
section
attribute [local irreducible] SW SL SQ AtQ SV SC BB LD PK Yields SO SOT SOA SY SP SPT SPA
theorem BN4 (G:Ctx) (H:List Ent) (f:Nat) (p:Int→Bool) (xs:List Int) {vs:List Value} (a:Option Addr) (n c:Nat) [h1:RdC G H a vs] (hv:vs=ints xs) (hn:n=xs.length) (hm:xs.length≤maxLen) (hf:∀H x,x∈xs→SV Tryz.prog G f [.int .i64 x] H (.bool (p x))):SV Tryz.prog G 150 [.slice a n c,.func (.func f) #[] #[]] H (.int .i64 (fIdx p xs)):=by
 subst hv
 have Hn:=Lib.hid hn
 have hbn:n≤9223372036854775807:=by unfold maxLen at hm;omega
 have hix:∀k,k<n→(ints xs)[(k:Int).toNat * 1]? =some (.int .i64 (xs.getD k 0)):=fun k hk=>ints_at xs k (by rw[←Hn.out];exact hk)
 have hlx:(ints xs).length=n * 1:=by simp [ints,hn]
 have hfk:∀H k,k<n→SV Tryz.prog G f [.int .i64 (xs.getD k 0)] H (.bool (p (xs.getD k 0))):=fun H k hk=>hf H _ (Al1 (by rw[←Hn.out];exact hk))
 have Hix:=Lib.hid hix
 have Hfk:=Lib.hid hfk
 clear hix hf hfk hn hm
 refine R3 Tryz.func150 O O O O O ?_
 repeat' (first|(apply E8;first|(apply A8;refine A9 ?_)|(apply C8;refine D7 O O ?_)|(apply D5;refine D9 O O ?_)|(apply K5;refine s_call (S9 O O) O ?_))|(apply D6)|(apply F3)|(apply A7)|(apply C9))
 refine R7 (α:=Nat) (fun j=>[(0,.slice a n c),(1,.func (.func f) #[] #[]),(7,.int .i64 n),(8,.int .i64 j)]) (fun _=>H)
  (fun j=>j≤n∧∀i,i<j→p (xs.getD i 0)=false) (fun j=>n-j) 0 ⟨Nat.zero_le _,fun i hi=>absurd hi (Nat.not_lt_zero _)⟩ Q7 J3 ?_
 rintro j ⟨hj,hs⟩
 have Hs:=Lib.hid hs
 clear hs
 by_cases hlt:(j:Int)<n
 ·have hxj:=Hix.out j (by omega)
  have hc:=fun H=>Hfk.out H j (by omega)
  generalize hx:xs.getD j 0=x at *
  cases hp:p x
  ·rw[hp] at hc
   repeat' (first|(apply E8;first|(apply A8;refine A9 ?_)|(apply C8;refine D7 O O ?_)|(apply E5;refine F7 O O O ?_;first|(apply K9;refine L6 ⟨by omega,by omega⟩ ?_)|refine F9 O ?_)|(apply F5;refine F8 O O ?_;refine X8 hxj ?_)|(apply D5;refine D9 O O ?_)|(apply M4;refine M8 (K7 O O O hlx (by omega) (by omega)) O ?_)|(refine AH8 O O O O (hc _) O O ?_))|(apply D6)|(apply G8)|(apply F3)|(apply A7)|(refine G5 O ?_;first|(apply H7)|(apply E9<;>intro hq<;>(try (exfalso;omega))))|(apply C9)|(apply H9))
   refine J6 (j+1) ⟨⟨by omega,fun i hi=>?_⟩,by omega⟩ Q7 J3
   rcases Nat.lt_or_ge i j with h|h
   ·exact Hs.out i h
   ·obtain rfl:i=j:=by omega
    rw[hx];exact hp
  ·rw[hp] at hc
   repeat' (first|(apply E8;first|(apply A8;refine A9 ?_)|(apply C8;refine D7 O O ?_)|(apply E5;refine F7 O O O ?_;refine F9 O ?_)|(apply F5;refine F8 O O ?_;refine X8 hxj ?_)|(apply D5;refine D9 O O ?_)|(apply M4;refine M8 (K7 O O O hlx (by omega) (by omega)) O ?_)|(refine AH8 O O O O (hc _) O O ?_))|(apply D6)|(apply G8)|(apply I4)|(apply F3)|(apply A7)|(refine G5 O ?_;first|(apply I1)|(apply E9<;>intro hq<;>(try (exfalso;omega))))|(apply C9)|(apply J8)|(apply U5))
   refine N7 (by (exact .inr O)) O O0 ?_
   rw[B34 (j:=j) (by rw[←Hn.out];omega) (by rw[hx];exact hp) Hs.out]
   rfl
 ·obtain rfl:j=n:=by omega
  repeat' (first|(apply E8;first|(apply A8;refine A9 ?_)|(apply E5;refine F7 O O O ?_;refine F9 O ?_)|(apply D5;refine D9 O O ?_))|(apply D6)|(apply I4)|(apply O7)|(apply A7)|(refine G5 O ?_;apply E9<;>intro hq<;>(try (exfalso;omega)))|(apply C9)|(apply K3)|(apply K4))
  refine N7 (by (exact .inr O)) O O0 ?_
  rw[B29 (by rw[←Hn.out];exact Hs.out)]
  rfl
theorem Ad0 (G:Ctx) (H:List Ent) (f:Nat) (p:Int→Bool) (xs:List Int) {vs:List Value} (a:Option Addr) (n c:Nat) [h1:RdC G H a vs] (hv:vs=ints xs) (hn:n=xs.length) (hm:xs.length≤maxLen) (hf:∀H x,x∈xs→SV Tryz.prog G f [.int .i64 x] H (.bool (p x))):SV Tryz.prog G 103 [.slice a n c,.func (.func f) #[] #[]] H (.bool (xs.any p)):=by
 have hc:=BN4 G H f p xs a n c hv hn hm hf
 rw[←By5]
 generalize fIdx p xs=r at *
 clear hf
 refine R3 Tryz.func103 O O O O O ?_
 repeat' (first|(apply E8;first|(apply A8;refine A9 ?_)|(apply C8;refine D7 O O ?_)|(apply E5;refine F7 O O O ?_;refine F9 O ?_)|(apply D5;refine D9 O O ?_)|(apply H5;refine H6 O O O (hc) O O ?_))|(apply D6)|(apply I4)|(apply A7)|(apply C9))
 refine N7 (by (exact .inr O)) O O0 ?_
 (exact Al2 (by omega))
end
end Go.Proofs.YtmmnimagbnlcmaaGreatDoor
namespace Go.Fw
section
open Go.Lib
theorem AX8 (c:UInt8):∀(a b:List UInt8),¬c∈a→index (a++c::b) [c]=((a.length:Nat):Int)
 | [],b,_=>by
   show index (c::b) [c]=0
   unfold index
   simp
 | x::a,b,h=>by
   have h1:¬c=x:=fun e=>h (by rw[e];exact List.mem_cons_self)
   have ih:=AX8 c a b fun e=>h (List.mem_cons_of_mem _ e)
   show index (x::(a++c::b)) [c]=_
   unfold index
   have hp:([c].isPrefixOf (x::(a++c::b)))=false:=by simp only[List.isPrefixOf,Bool.and_true];exact beq_eq_false_iff_ne.2 h1
   rw[hp,ih]
   simp
theorem Aw0 (c:UInt8):∀(l:List UInt8),¬c∈l→index l [c]= -1
 | [],_=>rfl
 | x::l,h=>by
   have h1:¬c=x:=fun e=>h (by rw[e];exact List.mem_cons_self)
   have ih:=Aw0 c l fun e=>h (List.mem_cons_of_mem _ e)
   unfold index
   have hp:([c].isPrefixOf (x::l))=false:=by simp only[List.isPrefixOf,Bool.and_true];exact beq_eq_false_iff_ne.2 h1
   rw[hp,ih]
   rfl
abbrev ba (l:List UInt8):ByteArray:=⟨l.toArray⟩
end
end Go.Fw
namespace Go.Proofs.YtmmnimagbnlcmaaGreatDoor
def AB8 (c:UInt8) (acc:List UInt8):List UInt8→List (List UInt8)
 | []=>[acc]
 | b::l=>if b=c then acc::AB8 c [] l else AB8 c (acc++[b]) l
theorem Aw2 (c:UInt8):∀(l acc:List UInt8),¬c∈l→AB8 c acc l=[acc++l]
 | [],acc,_=>by simp [AB8]
 | b::l,acc,h=>by
   have hb:¬b=c:=fun e=>h (e▸List.mem_cons_self)
   rw[AB8,if_neg hb,Aw2 c l _ (fun x=>h (List.mem_cons_of_mem _ x)),List.append_assoc];rfl
theorem Ag6 (c:UInt8):∀(a b acc:List UInt8),¬c∈a→AB8 c acc (a++c::b)=(acc++a)::AB8 c [] b
 | [],b,acc,_=>by rw[List.nil_append,AB8,if_pos rfl,List.append_nil]
 | x::a,b,acc,h=>by
   have hb:¬x=c:=fun e=>h (e▸List.mem_cons_self)
   rw[List.cons_append,AB8,if_neg hb,Ag6 c a b _ (fun y=>h (List.mem_cons_of_mem _ y)),List.append_assoc];rfl
theorem BC3 (c:UInt8):∀(k:Nat) (l:List UInt8),Lib.count l [c]=k→Lib.splitK [c] 0 k l=AB8 c [] l:=by
 intro k
 induction k with
 | zero=>
   intro l h
   have hn:¬c∈l:=fun hm=>by
    obtain⟨a,b,rfl,ha⟩:=List.eq_append_cons_of_mem hm
    have:=Lib.count_hit (by simp) (AX8 c a b ha)
    omega
   rw[Lib.splitK,Aw2 c l [] hn];rfl
 | succ k ih=>
   intro l h
   by_cases hm:c∈l
   ·obtain⟨a,b,rfl,ha⟩:=List.eq_append_cons_of_mem hm
    have hi:=AX8 c a b ha
    have hc:=Lib.count_hit (by simp) hi
    have e1:(a++c::b).drop (a.length+1)=b:=by rw[List.drop_length_add_append];rfl
    have hlc:[c].length=1:=rfl
    rw[hlc,e1] at hc
    rw[Lib.splitK,hi,if_neg (by simp),hlc,Nat.add_zero,Int.toNat_natCast,e1,List.take_left,ih b (by omega),Ag6 c a b [] ha,List.nil_append]
   ·have h2:=Lib.count_miss (Aw0 c l hm)
    omega
theorem Af0 (c:UInt8):∀(l acc w:List UInt8),w∈AB8 c acc l→w.length≤acc.length+l.length
 | [],acc,w,h=>by simp only[AB8,List.mem_singleton] at h;subst h;exact Nat.le_refl _
 | b::l,acc,w,h=>by
   unfold AB8 at h
   split at h
   ·rcases List.mem_cons.1 h with rfl|h
    ·omega
    ·have:=Af0 c l [] w h;simp at this ⊢;omega
   ·have:=Af0 c l _ w h;simp at this ⊢;omega
def baL (l:List UInt8):ByteArray:=⟨l.toArray⟩
theorem Bj5 (d:ByteArray):baL d.data.toList=d:=by cases d;rfl
def AK5 (c:UInt8) (d:ByteArray):List ByteArray:=(AB8 c [] d.data.toList).map baL
theorem Ae4 (c:UInt8) (d:ByteArray):Lib.splitB ⟨#[c]⟩ 0 (Lib.countB d ⟨#[c]⟩) d=AK5 c d:=by
 have h:=Lib.splitB_data ⟨#[c]⟩ 0 (Lib.countB d ⟨#[c]⟩) d
 have h2:=BC3 c (Lib.countB d ⟨#[c]⟩) d.data.toList rfl
 unfold AK5
 rw[←h2,show [c]=(⟨#[c]⟩:ByteArray).data.toList from rfl,←h,List.map_map]
 conv=>lhs;rw[←List.map_id (Lib.splitB ⟨#[c]⟩ 0 (Lib.countB d ⟨#[c]⟩) d)]
 exact List.map_congr_left fun x _=>(Bj5 x).symm
theorem A83 (c:UInt8) (d:ByteArray):Lib.countB d ⟨#[c]⟩+1=(AK5 c d).length:=by
 rw[←Ae4,Lib.splitB_all ⟨#[c]⟩ (Nat.le_refl 1) 0 _ d rfl]
end Go.Proofs.YtmmnimagbnlcmaaGreatDoor
namespace Go.Sx
def inS (cut:ByteArray) (x:Int):Bool:=cut.data.toList.contains (UInt8.ofNat x.toNat)
def setC (cut:ByteArray):List Value:=(Lib.setCells cut.data.toList).toList
theorem B06 (cut:ByteArray) (x:Int) (h:0≤x∧x≤255):(setC cut)[x.toNat]? =some (.bool (inS cut x)):=by
 unfold setC inS
 have h1:=Lib.setCells_at cut.data.toList (UInt8.ofNat x.toNat)
 have h2:(UInt8.ofNat x.toNat).toNat=x.toNat:=by simp;omega
 rw[h2] at h1
 rw[Array.getElem?_toList]
 exact h1
theorem Be6 (cut:ByteArray):(setC cut).length=256:=by unfold setC;rw[Array.length_toList,Lib.setCells_size]
def tlN (p:Int→Bool) (l:List Int):List Int:=l.dropWhile p
def trN (p:Int→Bool) (l:List Int):List Int:=(l.reverse.dropWhile p).reverse
attribute [irreducible] setC
end Go.Sx
namespace Go.Proofs.YtmmnimagbnlcmaaGreatDoor
section
attribute [local irreducible] SW SL SQ AtQ SV SC BB LD PK Yields SO SOT SOA SY SP SPT SPA
theorem Aw6 (G:Ctx) (H:List Ent) (b:Nat) {t:TypeId} (cut:ByteArray) [hb:HasBlk H b t (setC cut)] (x:Int) (hx:0≤x∧x≤255):SV Tryz.prog G 248 [.pointer (some ⟨b,0,none⟩),.int .u8 x] H (.bool (inS cut x)):=by
 have hv:=B06 cut x hx
 have hv:(setC cut)[0+x.toNat * 1]? =some (.bool (inS cut x)):=by rw[show 0+x.toNat * 1=x.toNat from by omega];exact hv
 refine R3 Tryz.func248 O O O O O ?_
 repeat' (first|(apply E8;first|(apply A8;refine A9 ?_)|(apply C8;refine D7 O O ?_)|(apply F5;refine F8 O O ?_;refine F4 hv ?_)|(apply D5;refine D9 O O ?_)|(apply M4;refine M8 (l7 O O O (by omega) (by omega)) O ?_)|(apply I9;refine J7 (F6 O O) O ?_))|(apply D6)|(apply I4)|(apply A7)|(apply C9))
 refine N7 (by (exact .inr O)) O O0 ?_
 rfl
theorem Bi2 (G:Ctx) (H:List Ent) (b:Nat) {t:TypeId} (cut:ByteArray) [hb:HasBlk H b t (setC cut)] (L:List Int) (ho:∀x∈L,0≤x∧x≤255) (hz:L.length≤4000000):SV Tryz.prog G 201 [.string (strOfNums L),.pointer (some ⟨b,0,none⟩)] H (.string (strOfNums (tlN (inS cut) L))):=by
 have cH:=fun x hx=>Aw6 G H b cut x hx
 refine R3 Tryz.func201 O O O O O ?_
 repeat' (first|(apply E8;first|(apply A8;refine A9 ?_)|(apply D5;refine D9 O O ?_))|(apply D6)|(apply F3)|(apply A7)|(apply C9))
 refine R7 (α:=List Int) (fun l=>[(0,.string (strOfNums l)),(1,.pointer (some ⟨b,0,none⟩))]) (fun _=>H)
  (fun l=>tlN (inS cut) l=tlN (inS cut) L∧l.length≤4000000∧∀x∈l,0≤x∧x≤255) (fun l=>l.length) L ⟨rfl,hz,ho⟩ Q7 J3 ?_
 rintro l ⟨hl,hlz,hlo⟩
 have hsz:(strOfNums l).size=l.length:=strOfNums_size l
 cases l with
 | nil=>
   simp only[List.length_nil] at hsz
   repeat' (first|(apply E8;first|(apply A8;refine A9 ?_)|(apply C8;refine D7 O O ?_)|(apply E5;refine F7 O O O ?_;refine F9 O ?_)|(apply D5;refine D9 O O ?_)|(apply K5;refine s_call (U2 O O) O ?_))|(apply D6)|(apply I4)|(apply O7)|(apply A7)|(refine G5 O ?_;apply H7)|(apply C9)|(apply K3)|(apply K4))
   refine N7 (by (exact .inr O)) O O0 ?_
   rw[←hl]
   rfl
 | cons x r=>
   simp only[List.length_cons] at hsz hlz
   have hn:nums (strOfNums (x::r))=x::r:=AE7 hlo
   have hv:(nums (strOfNums (x::r))).getD (0:Int).toNat 0=x:=by rw[hn];rfl
   have hx:=hlo x List.mem_cons_self
   have hsl:(strOfNums (x::r)).extract (1:Int).toNat (((strOfNums (x::r)).size:Nat):Int).toNat=strOfNums r:=Ak2 (by
    rw[AV1,hn,AE7 (fun y hy=>hlo y (List.mem_cons_of_mem _ hy)),hsz]
    exact List.take_of_length_le (by show r.length≤_;simp))
   have c1:=cH x hx
   have Hl:=Lib.hid hl
   have Hlo:=Lib.hid hlo
   clear hl hlo cH hn
   cases hp:inS cut x with
   | true=>
     rw[hp] at c1
     repeat' (first|(apply E8;first|(apply A8;refine A9 ?_)|(apply C8;refine D7 O O ?_)|(apply E5;refine F7 O O O ?_;refine F9 O ?_)|(apply D5;refine D9 O O ?_)|(apply X5;refine Z9 (Z8 O O O) O ?_)|(apply V5;refine Y5 (l9 hv O O O (by omega) (by omega)) O ?_)|(apply H5;refine H6 O O O (c1) O O ?_)|(apply K5;refine s_call (U2 O O) O ?_)|(apply r9;refine AL0 (AD6 hsl O O O O (by omega) (by omega) (by omega)) O ?_))|(apply D6)|(apply G8)|(apply F3)|(apply A7)|(refine G5 O ?_;first|(apply H7)|(apply E9<;>intro hq<;>(try (exfalso;omega))))|(apply C9)|(apply H9))
     refine J6 r ⟨⟨?_,by omega,fun y hy=>Hlo.out y (List.mem_cons_of_mem _ hy)⟩,by simp⟩ Q7 J3
     rw[←Hl.out]
     unfold tlN
     rw[List.dropWhile_cons,hp]
     rfl
   | false=>
     rw[hp] at c1
     repeat' (first|(apply E8;first|(apply A8;refine A9 ?_)|(apply C8;refine D7 O O ?_)|(apply E5;refine F7 O O O ?_;refine F9 O ?_)|(apply D5;refine D9 O O ?_)|(apply X5;refine Z9 (Z8 O O O) O ?_)|(apply V5;refine Y5 (l9 hv O O O (by omega) (by omega)) O ?_)|(apply H5;refine H6 O O O (c1) O O ?_)|(apply K5;refine s_call (U2 O O) O ?_))|(apply D6)|(apply G8)|(apply I4)|(apply O7)|(apply F3)|(apply A7)|(refine G5 O ?_;first|(apply I1)|(apply E9<;>intro hq<;>(try (exfalso;omega))))|(apply C9)|(apply K3)|(apply K4)|refine AK6 O ?_)
     refine N7 (by (exact .inr O)) O O0 ?_
     rw[←Hl.out]
     unfold tlN
     rw[List.dropWhile_cons,hp]
     rfl
theorem Bf2 (G:Ctx) (H:List Ent) (b:Nat) {t:TypeId} (cut:ByteArray) [hb:HasBlk H b t (setC cut)] (L:List Int) (ho:∀x∈L,0≤x∧x≤255) (hz:L.length≤4000000):SV Tryz.prog G 202 [.string (strOfNums L),.pointer (some ⟨b,0,none⟩)] H (.string (strOfNums (trN (inS cut) L))):=by
 have cH:=fun x hx=>Aw6 G H b cut x hx
 refine R3 Tryz.func202 O O O O O ?_
 repeat' (first|(apply E8;first|(apply A8;refine A9 ?_)|(apply D5;refine D9 O O ?_))|(apply D6)|(apply F3)|(apply A7)|(apply C9))
 refine R7 (α:=List Int) (fun l=>[(0,.string (strOfNums l.reverse)),(1,.pointer (some ⟨b,0,none⟩))]) (fun _=>H)
  (fun l=>trN (inS cut) l.reverse=trN (inS cut) L∧l.length≤4000000∧∀x∈l,0≤x∧x≤255) (fun l=>l.length) L.reverse ⟨by rw[List.reverse_reverse],by rw[List.length_reverse];exact hz,fun x hx=>ho x (List.mem_reverse.1 hx)⟩ (by simp only[List.reverse_reverse];exact Q7) J3 ?_
 rintro l ⟨hl,hlz,hlo⟩
 have hsz:(strOfNums l.reverse).size=l.length:=by rw[strOfNums_size,List.length_reverse]
 cases l with
 | nil=>
   simp only[List.length_nil] at hsz
   repeat' (first|(apply E8;first|(apply A8;refine A9 ?_)|(apply C8;refine D7 O O ?_)|(apply E5;refine F7 O O O ?_;refine F9 O ?_)|(apply D5;refine D9 O O ?_)|(apply K5;refine s_call (U2 O O) O ?_))|(apply D6)|(apply I4)|(apply O7)|(apply A7)|(refine G5 O ?_;apply H7)|(apply C9)|(apply K3)|(apply K4))
   refine N7 (by (exact .inr O)) O O0 ?_
   rw[←hl]
   rfl
 | cons x r=>
   simp only[List.length_cons] at hsz hlz
   have hn:nums (strOfNums (x::r).reverse)=(x::r).reverse:=AE7 (fun y hy=>hlo y (List.mem_reverse.1 hy))
   have hv:(nums (strOfNums (x::r).reverse)).getD ((((strOfNums (x::r).reverse).size:Nat):Int)-1).toNat 0=x:=by
    rw[hn,hsz,show (((r.length+1:Nat):Int)-1).toNat=r.length from by omega,List.reverse_cons,List.getD_eq_getElem?_getD,List.getElem?_append_right (by rw[List.length_reverse];exact Nat.le_refl _),List.length_reverse,Nat.sub_self]
    rfl
   have hx:=hlo x List.mem_cons_self
   have hsl:(strOfNums (x::r).reverse).extract (0:Int).toNat ((((strOfNums (x::r).reverse).size:Nat):Int)-1).toNat=strOfNums r.reverse:=Ak2 (by
    rw[AV1,hn,AE7 (fun y hy=>hlo y (List.mem_cons_of_mem _ (List.mem_reverse.1 hy))),hsz,show (((r.length+1:Nat):Int)-1).toNat-(0:Int).toNat=r.length from by omega,List.reverse_cons]
    show List.take r.length (r.reverse++[x])=_
    exact List.take_left' (List.length_reverse))
   have c1:=cH x hx
   have Hl:=Lib.hid hl
   have Hlo:=Lib.hid hlo
   clear hl hlo cH hn
   generalize hS:strOfNums (x::r).reverse=S at *
   cases hp:inS cut x with
   | true=>
     rw[hp] at c1
     repeat' (first|(apply E8;first|(apply A8;refine A9 ?_)|(apply C8;refine D7 O O ?_)|(apply E5;refine F7 O O O ?_;first|(apply U8;refine V4 ⟨by omega,by omega⟩ ?_)|refine F9 O ?_)|(apply D5;refine D9 O O ?_)|(apply X5;refine Z9 (Z8 O O O) O ?_)|(apply V5;refine Y5 (l9 hv O O O (by omega) (by omega)) O ?_)|(apply H5;refine H6 O O O (c1) O O ?_)|(apply K5;refine s_call (U2 O O) O ?_)|(apply r9;refine AL0 (AD6 hsl O O O O (by omega) (by omega) (by omega)) O ?_))|(apply D6)|(apply G8)|(apply F3)|(apply A7)|(refine G5 O ?_;first|(apply H7)|(apply E9<;>intro hq<;>(try (exfalso;omega))))|(apply C9)|(apply H9))
     refine J6 r ⟨⟨?_,by omega,fun y hy=>Hlo.out y (List.mem_cons_of_mem _ hy)⟩,by simp⟩ Q7 J3
     rw[←Hl.out]
     unfold trN
     rw[List.reverse_reverse,List.reverse_reverse,List.dropWhile_cons,hp]
     rfl
   | false=>
     rw[hp] at c1
     repeat' (first|(apply E8;first|(apply A8;refine A9 ?_)|(apply C8;refine D7 O O ?_)|(apply E5;refine F7 O O O ?_;first|(apply U8;refine V4 ⟨by omega,by omega⟩ ?_)|refine F9 O ?_)|(apply D5;refine D9 O O ?_)|(apply X5;refine Z9 (Z8 O O O) O ?_)|(apply V5;refine Y5 (l9 hv O O O (by omega) (by omega)) O ?_)|(apply H5;refine H6 O O O (c1) O O ?_)|(apply K5;refine s_call (U2 O O) O ?_))|(apply D6)|(apply G8)|(apply I4)|(apply O7)|(apply F3)|(apply A7)|(refine G5 O ?_;first|(apply I1)|(apply E9<;>intro hq<;>(try (exfalso;omega))))|(apply C9)|(apply K3)|(apply K4)|refine AK6 O ?_)
     refine N7 (by (exact .inr O)) O O0 ?_
     rw[←Hl.out]
     unfold trN
     rw[List.reverse_reverse,List.dropWhile_cons,hp,←hS]
     rfl
theorem Be3 (G:Ctx) (H:List Ent) (cut:ByteArray) (hz:cut.size≤1000) (ha:∀(j:Nat) b,cut.data.toList[j]? =some b→b.toNat<128):SV Tryz.prog G 200 [.string cut] H (.tuple #[.agg (setC cut).toArray,.bool true]):=by
 refine u6 (l8 Tryz.func200 O O) fun w hw=>?_
 have h:=Tryz.strings_makeASCIISet (fun w=>AJ2 _ _ (by kernel_rfl) w) cut w (by omega) ha
 have e:(setC cut).toArray=Lib.setCells cut.data.toList:=by unfold setC;exact Array.toArray_toList
 rw[e]
 exact h.mono fun e w' ⟨h1,h2⟩=>⟨h1,by rw[h2];exact(Below.refl _ w).alloc (Nat.le_refl _) _⟩
theorem Bj2 (cut:ByteArray):(setC cut).all (·.oneCell')=true:=by
 have:=Lib.setCells_one cut.data.toList
 unfold setC
 rw[List.all_eq_true]
 intro v hv
 rw[Array.all_eq_true_iff_forall_mem] at this
 exact this v (Array.mem_toList_iff.1 hv)
theorem CC0 (cut:ByteArray):Nat.beq (setC cut).length 256=true:=by rw[Be6];rfl
instance zSet:ZeroT Tryz.prog 291 (List.replicate 256 (.bool false)):=⟨_,show still Tryz.prog (zeroValue 291)=some (.agg (List.toArray (List.replicate 256 (.bool false)))) by kernel_rfl,.agg _⟩
theorem Ba2 (G:Ctx) (H:List Ent) (cut s:ByteArray) (h2:2≤cut.size) (hz:cut.size≤1000) (hs:s.size≤4000000) (ha:∀(j:Nat) b,cut.data.toList[j]? =some b→b.toNat<128):SV Tryz.prog G 145 [.string s,.string cut] H (.string (strOfNums (tlN (inS cut) (trN (inS cut) (nums s))))):=by
 have cM:=fun H=>Be3 G H cut hz ha
 have hone:=Bj2 cut
 have hb:=CC0 cut
 have hne:¬cut=⟨#[]⟩:=fun e=>by subst e;exact absurd h2 (by decide)
 have cR:=fun H b t (h:HasBlk H b t (setC cut))=>Bf2 G H b (hb:=h) cut (nums s) (AE8 s) (by rw[nums_length];exact hs)
 rw[AK0] at cR
 have hsub:=(List.dropWhile_sublist (inS cut) (l:=(nums s).reverse))
 have cL:=fun H b t (h:HasBlk H b t (setC cut))=>Bi2 G H b (hb:=h) cut (trN (inS cut) (nums s)) (fun x hx=>AE8 s x (List.mem_reverse.1 (hsub.subset (List.mem_reverse.1 hx)))) (by have:=hsub.length_le;rw[List.length_reverse,nums_length] at this;unfold trN;rw[List.length_reverse];omega)
 clear hsub
 by_cases hs0:s=⟨#[]⟩
 ·subst hs0
  refine R3 Tryz.func145 O O O O O ?_
  repeat' (first|(apply E8;first|(apply A8;refine A9 ?_)|(apply C8;refine D7 O O ?_)|(apply E5;refine F7 O O O ?_;refine AB9 ?_)|(apply D5;refine D9 O O ?_)|(apply I6;refine J4 O O ?_;apply P7;refine P6 O ?_)|(apply I5;refine J9 O O O O ?_;apply d9))|(apply D6)|(apply I4)|(apply A7)|(refine G5 O ?_;apply I1)|(apply C9)|(apply J8))
  all_goals (refine N7 (by (exact .inr O)) O O0 ?_;rfl)
 ·refine R3 Tryz.func145 O O O O O ?_
  repeat' (first|(apply E8;first|(apply A8;refine A9 ?_)|(apply C8;refine D7 O O ?_)|(apply E5;refine F7 O O O ?_;first|(refine AB9 ?_)|(refine F9 O ?_))|(apply D5;refine D9 O O ?_)|(apply I6;refine J4 O O ?_;first|(apply P7;refine P6 O ?_)|(apply M6;refine M7 O ?_))|(apply U7;refine X7 (M0 O O O) O ?_)|(apply H5;first|refine H6 O O O (cM _) O O ?_ |refine H6 O O O (cL _ _ _ inferInstance) O O ?_ |refine H6 O O O (cR _ _ _ inferInstance) O O ?_)|(apply K5;refine s_call (U2 O O) O ?_)|(apply H8;refine Q8 O O O O hone hb O O ?_)|(apply O6;refine Q4 O O O O (fun _=>?_))|(apply I5;refine J9 O O O O ?_;first|(apply I1)|(apply H7)|(apply d9)|(apply E9<;>intro hq<;>(try (exfalso;omega)))|(apply P5<;>intro hq<;>(try (exfalso;omega)))))|(apply D6)|(apply G8)|(apply I4)|(apply A7)|(refine G5 O ?_;first|(apply I1)|(apply H7)|(apply E9<;>intro hq<;>(try (exfalso;omega))))|(apply C9)|(apply J8))
  all_goals (first|(exact absurd (by assumption) hs0)|(exact absurd (by assumption) hne)|(refine N7 (by (exact .inr O)) O O0 ?_;rfl))
end
end Go.Proofs.YtmmnimagbnlcmaaGreatDoor
namespace Go.Fw
def okA (x:Int):Bool:=decide ((48≤x∧x≤57)∨x=59)
def stepA (n d:Int):Int:=min (max n 0 * 10+(d-48)) 16383
def numA (l:List Int):Int:=l.foldl stepA (-1)
theorem BT6 (l:List Int) (d:Int):numA (l++[d])=stepA (numA l) d:=by unfold numA;rw[List.foldl_append];rfl
theorem BG9 (l:List Int) (h:∀x∈l,48≤x∧x≤57): -1≤numA l∧numA l≤16383:=by
 unfold numA
 have:∀(l:List Int) (n:Int),(∀x∈l,48≤x∧x≤57)→ -1≤n∧n≤16383→ -1≤l.foldl stepA n∧l.foldl stepA n≤16383:=by
  intro l
  induction l with
  | nil=>exact fun n _ h=>h
  | cons d l ih=>
    intro n hl hn
    have hd:=hl d List.mem_cons_self
    rw[List.foldl_cons]
    exact ih _ (fun x hx=>hl x (List.mem_cons_of_mem _ hx)) (by unfold stepA;omega)
 exact this l (-1) h (by omega)
theorem Bl8 (p:Int→Bool) (l:List Int):tlN p (trN p l)=[]↔l.all p=true:=by
 have hall:∀l:List Int,l.dropWhile p=[]↔l.all p=true:=fun l=>by
  induction l with
  | nil=>simp
  | cons x l ih=>rw[List.dropWhile_cons];split<;>simp_all
 unfold tlN trN
 rw[hall,List.all_reverse]
 constructor
 ·intro h
  rw[←List.all_reverse,←hall]
  cases hd:l.reverse.dropWhile p with
  | nil=>rfl
  | cons x r=>
    exfalso
    have h9:=List.head?_dropWhile_not p l.reverse
    rw[hd] at h h9
    simp at h h9
    rw[h9] at h
    exact absurd h.1 (by decide)
 ·intro h
  rw[(hall _).2 (by rw[List.all_reverse];exact h)]
  rfl
end Go.Fw
namespace Go.Proofs.YtmmnimagbnlcmaaGreatDoor
def cutA:ByteArray:=⟨#[48,49,50,51,52,53,54,55,56,57,59]⟩
theorem Bt8 (x:Int) (h:0≤x∧x≤255):inS cutA x=okA x:=by
 have key:∀n:Fin 256,inS cutA (n.val:Int)=okA (n.val:Int):=by decide+kernel
 have:=key ⟨x.toNat,by omega⟩
 rw[show ((x.toNat:Nat):Int)=x from by omega] at this
 exact this
def readA (s:ByteArray):List Int×Int:=if (nums s).all okA=true then (((AK5 59 s).take 32).map fun w=>numA (nums w),0) else ([],4)
theorem Ac0 (c:UInt8):∀(l acc w:List UInt8),w∈AB8 c acc l→(∀x∈acc,x≠c)→∀x∈w,x≠c∧(x∈acc∨x∈l)
 | [],acc,w,h,ha,x,hx=>by simp only[AB8,List.mem_singleton] at h;subst h;exact⟨ha x hx,.inl hx⟩
 | b::l,acc,w,h,ha,x,hx=>by
   unfold AB8 at h
   split at h
   ·rcases List.mem_cons.1 h with rfl|h
    ·exact⟨ha x hx,.inl hx⟩
    ·obtain⟨h1,h2⟩:=Ac0 c l [] w h (fun y hy=>nomatch hy) x hx
     exact⟨h1,.inr (List.mem_cons_of_mem _ (h2.resolve_left (fun h=>nomatch h)))⟩
   ·rename_i hb
    obtain⟨h1,h2⟩:=Ac0 c l _ w h (fun y hy=>by
     rcases List.mem_append.1 hy with hy|hy
     ·exact ha y hy
     ·rw[List.mem_singleton] at hy;rw[hy];exact hb) x hx
    refine⟨h1,?_⟩
    rcases h2 with h2|h2
    ·rcases List.mem_append.1 h2 with h2|h2
     ·exact .inl h2
     ·rw[List.mem_singleton] at h2;rw[h2];exact .inr List.mem_cons_self
    ·exact .inr (List.mem_cons_of_mem _ h2)
theorem Ad7 (s:ByteArray) (h:(nums s).all okA=true) (w:ByteArray) (hw:w∈AK5 59 s):(∀x∈nums w,48≤x∧x≤57)∧w.size≤s.size:=by
 unfold AK5 at hw
 rw[List.mem_map] at hw
 obtain⟨v,hv,rfl⟩:=hw
 have hn:nums (baL v)=v.map fun x=>(x.toNat:Int):=by unfold nums baL;rw[List.toList_toArray]
 refine⟨fun x hx=>?_,?_⟩
 ·rw[hn,List.mem_map] at hx
  obtain⟨u,hu,rfl⟩:=hx
  obtain⟨h1,h2⟩:=Ac0 59 _ _ v hv (fun y hy=>nomatch hy) u hu
  have h3:=h2.resolve_left (fun h=>nomatch h)
  rw[List.all_eq_true] at h
  have h4:=h (u.toNat:Int) (by unfold nums;exact List.mem_map.2 ⟨u,h3,O⟩)
  unfold okA at h4
  rw[decide_eq_true_eq] at h4
  have h5:¬u.toNat=59:=fun e=>h1 (UInt8.toNat_inj.1 e)
  omega
 ·have:=Af0 59 _ _ v hv
  simp at this
  exact this
section
attribute [local irreducible] SW SL SQ AtQ SV SC BB LD PK Yields SO SOT SOA SY SP SPT SPA
def AB2 (G:Ctx) (H:List Ent):Prop:=∀w,Holds G H w→Lib.TabIs Tryz.prog w "internal/strconv.uint64pow10" .u64 Lib.pow10Tab
end
section
set_option maxRecDepth 1000000
theorem BV5 {P:Program} {W:World} {name:String} {k:IntKind} {zs:List Int} {g:Nat} {t e:TypeId} {n:Nat} (hg:P.globalNamed name=some g) (hty:(P.globals[g]?).map (·.type)=some t) (ht:P.underlying t=some (.array n e)) (he:P.underlying e=some (.int k)) (hce:P.cellsOf e=1) (hct:P.cellsOf t=n)
 (h:Lib.VarReads P W name (Lib.tabData k zs)):Lib.TabIs P W name k zs:=by
 obtain⟨g',t',cs,fuel,p,hg',ht',hvar,hd⟩:=h
 obtain rfl:=Option.some.inj (hg.symm.trans hg')
 obtain rfl:=Option.some.inj (hty.symm.trans ht')
 unfold Lib.TabIs
 rw[hvar,←Lib.cells_of_tab ht he hce hct hd]
theorem BL1:(Rows.laid_internal_strconv_uint64pow10:DataW Unit)=Lib.tabData .u64 Lib.pow10Tab:=by kernel_rfl
theorem BJ5 {laid:List (String×DataW Unit)} {W:World} (hL:laidMet Tryz.prog laid W) (h1:("internal/strconv.uint64pow10",Rows.laid_internal_strconv_uint64pow10)∈laid):∀H,AB2 ⟨W.heap.size,W⟩ H:=fun H w hw=>
 Lib.tabBelow_of_tabIs (BV5 (g:=3) (t:=327) (e:=32) (n:=20) (by kernel_rfl) (by kernel_rfl) Tryz.underlying327 Tryz.underlying32 (by kernel_rfl) (by kernel_rfl) (BL1▸Lib.laidMet.reads hL h1)) w hw.below
end
def Words (C:Array Value) (f:Nat→Nat):Prop:=C.size=4∧∀j,j<4→C[j]? =some (.int .u64 (f j))∧f j<18446744073709551616
def bitOf (f:Nat→Nat) (b:Nat):Bool:=(f (b / 64)).testBit (b % 64)
theorem and1 (x k:Nat) (hx:x<18446744073709551616):(bits .and .u64 ((x:Int) / 2 ^ k) 1==1)=decide (x / 2 ^ k % 2=1):=by
 have hq:x / 2 ^ k<18446744073709551616:=Nat.lt_of_le_of_lt (Nat.div_le_self _ _) hx
 have h:=u64_and_nat (x / 2 ^ k) 1 hq (by omega)
 have e:((x / 2 ^ k:Nat):Int)=(x:Int) / 2 ^ k:=by rw[Int.natCast_ediv];simp
 rw[e] at h
 rw[show (1:Int)=((1:Nat):Int) from rfl,h,Nat.and_one_is_mod,Bool.eq_iff_iff]
 simp only[beq_iff_eq,decide_eq_true_eq]
 omega
theorem BB2 (x k:Nat):x.testBit k=decide (x / 2 ^ k % 2=1):=by
 rw[Nat.testBit_eq_decide_div_mod_eq]
def Ae1 (f:Nat→Nat) (k:Nat):List Int:=((List.range k).filter (bitOf f)).map (fun b:Nat=>(b:Int))
theorem AX6 (f:Nat→Nat) (k:Nat):Ae1 f (k+1)=if bitOf f k=true then Ae1 f k++[(k:Int)] else Ae1 f k:=by
 unfold Ae1
 rw[List.range_succ,List.filter_append]
 cases h:bitOf f k<;>simp [h]
end Go.Proofs.YtmmnimagbnlcmaaGreatDoor
namespace Go.Fw
theorem B28 (a b:Nat) (h1:a<18446744073709551616) (h3:b<18446744073709551616):bits .andNot .u64 (a:Int) (b:Int)=((a&&& (18446744073709551615-b):Nat):Int):=by
 have hm:(BitVec.ofInt 64 (a:Int)).toNat=a:=ofInt_u64 a h1
 have hk:(BitVec.ofInt 64 (b:Int)).toNat=b:=ofInt_u64 b h3
 have hlt:a&&& (18446744073709551615-b)≤a:=Nat.and_le_left
 unfold bits
 show IntKind.u64.wrap (((BitVec.ofInt 64 (a:Int))&&& ~~~ (BitVec.ofInt 64 (b:Int))).toNat:Int)=_
 rw[BitVec.toNat_and,BitVec.toNat_not,hm,hk]
 show IntKind.u64.wrap ((a&&& (18446744073709551615-b):Nat):Int)=_
 exact IntWalk.u64_in _ (by omega)
end Go.Fw
namespace Go.Proofs.YtmmnimagbnlcmaaGreatDoor
def AA1 (f:Nat→Nat):List Value:=[.int .u64 (f 0),.int .u64 (f 1),.int .u64 (f 2),.int .u64 (f 3)]
def Wf (f:Nat→Nat):Prop:=∀j,j<4→f j<18446744073709551616
theorem AX3 (f:Nat→Nat) (j:Nat) (h:j<4):(AA1 f)[j]? =some (.int .u64 (f j)):=by
 match j,h with
 | 0,_=>rfl
 | 1,_=>rfl
 | 2,_=>rfl
 | 3,_=>rfl
def clrF (f:Nat→Nat) (c:Nat):Nat→Nat:=fun j=>if j=c / 64 then f j&&& (18446744073709551615-2 ^ (c % 64)) else f j
def setF (f:Nat→Nat) (c:Nat):Nat→Nat:=fun j=>if j=c / 64 then f j|||2 ^ (c % 64) else f j
theorem Aa1 (f g:Nat→Nat) (j:Nat) (h:j<4) (hg:∀i,i≠j→g i=f i):(AA1 f).set j (.int .u64 (g j))=AA1 g:=by
 match j,h with
 | 0,_=>simp [AA1,hg 1 (by omega),hg 2 (by omega),hg 3 (by omega)]
 | 1,_=>simp [AA1,hg 0 (by omega),hg 2 (by omega),hg 3 (by omega)]
 | 2,_=>simp [AA1,hg 0 (by omega),hg 1 (by omega),hg 3 (by omega)]
 | 3,_=>simp [AA1,hg 0 (by omega),hg 1 (by omega),hg 2 (by omega)]
theorem BT8 (k:Nat) (h:k<64):pw k=((2 ^ k:Nat):Int)∧2 ^ k<18446744073709551616:=⟨by rw[A03];simp,Nat.pow_lt_pow_right (a:=2) (by omega) h⟩
theorem A43 (f:Nat→Nat) (c:Nat) (hf:Wf f) (hc:c<256):ibits .andNot .u64 (f (c / 64)) (pw (c % 64))=clrF f c (c / 64)∧Wf (clrF f c):=by
 obtain⟨h1,h2⟩:=BT8 (c % 64) (by omega)
 refine⟨?_,fun j hj=>?_⟩
 ·rw[Am4,h1,B28 _ _ (hf _ (by omega)) h2]
  unfold clrF;rw[if_pos rfl]
 ·unfold clrF
  split
  ·exact Nat.lt_of_le_of_lt Nat.and_le_left (hf j hj)
  ·exact hf j hj
theorem Aa6 (f:Nat→Nat) (c:Nat) (hf:Wf f) (hc:c<256):ibits .or .u64 (f (c / 64)) (pw (c % 64))=setF f c (c / 64)∧Wf (setF f c):=by
 obtain⟨h1,h2⟩:=BT8 (c % 64) (by omega)
 refine⟨?_,fun j hj=>?_⟩
 ·rw[Am4,h1,u64_or_nat _ _ (hf _ (by omega)) h2]
  unfold setF;rw[if_pos rfl]
 ·unfold setF
  split
  ·exact Nat.or_lt_two_pow (n:=64) (hf j hj) h2
  ·exact hf j hj
section
attribute [local irreducible] SW SL SQ AtQ SV SC BB LD PK Yields SO SOT SOA SY SP SPT SPA
def usF:Nat→(Nat→Nat)
 | 0=>fun _=>0
 | k+1=>setF (usF k) (8 * (k+1))
theorem A23:∀k,k≤31→Wf (usF k)
 | 0,_=>fun _ _=>by show 0<_;omega
 | k+1,h=>(Aa6 (usF k) (8 * (k+1)) (A23 k (by omega)) (by omega)).2
theorem Bh3 (G:Ctx) (H:List Ent):SV Tryz.prog G 86 [] H (.agg (AA1 (usF 31)).toArray):=by
 refine Au6 Tryz.func86 O O O O O ?_
 repeat' (first|(apply E8;first|(apply A8;refine A9 ?_)|(apply D5;refine D9 O O ?_)|(apply O6;refine Q4 O O O O (fun _=>?_)))|(apply D6)|(apply F3)|((fail_if_success (refine J5 (id:=3) ?_));apply A7)|(apply C9))
 rename_i b b1
 refine R7 (α:=Nat) (fun k=>[(0,.pointer (some ⟨b,0,none⟩)),(1,.pointer (some ⟨b1,0,none⟩)),(2,.int .i64 (8 * ((k:Int)+1)))]) (fun k=> .blk b1 35 (AA1 (usF k)):: .blk b 35 [.int .u64 0,.int .u64 0,.int .u64 0,.int .u64 0]::H)
  (fun k=>k≤31) (fun k=>31-k) 0 (by decide) Q7 J3 ?_
 intro k hk
 by_cases hlt:k<31
 ·obtain⟨hs1,-⟩:=Aa6 (usF k) (8 * (k+1)) (A23 k hk) (by omega)
  have hx:=AX3 (usF k) (8 * (k+1) / 64) (by omega)
  have hset1:=Aa1 (usF k) (setF (usF k) (8 * (k+1))) (8 * (k+1) / 64) (by omega) (fun i hi=>if_neg hi)
  have hi0:0+((8 * ((k:Int)+1)) / 64).toNat * 1=8 * (k+1) / 64:=by omega
  rw[←hi0] at hx hset1 hs1
  have hD:pw ((8 * ((k:Int)+1)) % 64).toNat=pw (8 * (k+1) % 64):=by rw[show ((8 * ((k:Int)+1)) % 64).toNat=8 * (k+1) % 64 from by omega]
  have hl1:0+((8 * ((k:Int)+1)) / 64).toNat * 1<(AA1 (usF k)).length:=by show _<4;omega
  generalize pw (8 * (k+1) % 64)=D at *
  have hF:setF (usF k) (8 * (k+1))=usF (k+1):=rfl
  rw[hF] at hset1 hs1
  have hnx:8 * ((k:Int)+1)+8=8 * (((k+1:Nat):Int)+1):=by omega
  clear hi0 hF
  repeat' (first|(apply E8;first|(apply A8;refine A9 ?_)|(apply C8;refine D7 O O ?_)|(apply E5;refine F7 O O O ?_;first|(apply K9;refine L6 ⟨by omega,by omega⟩ ?_)|refine F9 O ?_)|(apply F5;refine F8 O O ?_;refine F4 hx ?_)|(apply D5;refine D9 O O ?_)|(apply H8;refine AE9 O O O O O hset1 hl1 O ?_))|(apply Q0;refine N8 (k:=0) J3 ?_)|(apply U3;first|(refine L8 O ?_)|(refine O4 O O O O (by kernel_rfl) (by decide+kernel) (by decide+kernel) ?_;first|(apply O1;refine G9 (P9 O O) ?_)|(apply AG6;refine AG7 O O ?_;first|(refine A94 hD (by omega) (by omega) ?_)|(refine AL8 O hs1 ?_)|(first|(apply BV4;refine BV7 ⟨by omega,by omega⟩ (by omega) (by omega) ?_)|(apply BS3;refine BW2 (by omega) (by omega) ?_)))|(apply M3;refine G9 (D8 O O) ?_)|(apply AF3;refine G9 (l7 O O O (by omega) (by omega)) ?_))|(refine O5 O ?_)|(refine N9 (by decide+kernel) ?_)|(refine Q6 (by kernel_rfl) ?_))|(apply V3;first|(refine Q5 O)|(refine U1 (by decide+kernel) ?_)|(refine Q3 O ?_ ?_))|(apply D6)|(apply G8)|(apply F3)|(apply A7)|(refine G5 O ?_;apply E9<;>intro hq<;>(try (exfalso;omega)))|(apply C9)|(apply H9)|(refine J5 (id:=5) ?_;refine Z6 (H) J3 ?_))
  refine J6 (k+1) ⟨by omega,by omega⟩ ?_ J3
  rw[←hnx];exact Q7
 ·obtain rfl:k=31:=by omega
  repeat' (first|(apply E8;first|(apply A8;refine A9 ?_)|(apply C8;refine D7 O O ?_)|(apply E5;refine F7 O O O ?_;refine F9 O ?_)|(apply F5;refine F8 O O ?_;refine M5 O ?_)|(apply H8;refine Q8 O O O O O O O O ?_))|(apply D6)|(apply I4)|(apply O7)|(apply A7)|(refine G5 O ?_;apply H7)|(apply C9)|(apply K3)|(apply K4))
  refine AB4 (H) (by (exact .inr O)) O (by (rfl)) O J3 ?_
  exact⟨O,O⟩
end
def inTab (n:Int) (l:List (Int×Int)):Bool:=l.any fun x=>decide (x.1≤n∧n≤x.2)
def inNo (n:Int) (l:List (Int×Int)) (k:Nat):Prop:=∀j,j<k→¬((l.getD j (0,0)).1≤n∧n≤(l.getD j (0,0)).2)
theorem BU2 (n:Int) (l:List (Int×Int)) (k:Nat) (hk:k<l.length) (h:(l.getD k (0,0)).1≤n∧n≤(l.getD k (0,0)).2):inTab n l=true:=by
 unfold inTab
 rw[List.any_eq_true]
 simp only[List.getD,List.getElem?_eq_getElem hk,Option.getD_some] at h
 exact⟨l[k],List.getElem_mem hk,by simpa using h⟩
theorem Bg4 (n:Int) (l:List (Int×Int)) (h:inNo n l l.length):inTab n l=false:=by
 unfold inTab
 rw[List.any_eq_false]
 intro x hx
 obtain⟨j,hj,rfl⟩:=List.getElem_of_mem hx
 have:=h j hj
 simp only[List.getD,List.getElem?_eq_getElem hj,Option.getD_some] at this
 simpa using this
theorem Bc1 (n:Int) (l:List (Int×Int)) (a:Option Addr) (m c:Nat) (w:World) (hm:m=l.length) (hl:m≤1000) (h:At w a (AR2 l)):
 Calls Tryz.prog 172 #[.int .i64 n,.slice a m c] w fun e w'=>e= .returned (.bool (inTab n l))∧Below w.heap.size w w':=by
 have Hm:=Lib.hid hm
 clear hm
 go_enter Tryz.func172,Tryz.ntmps172
 go_wp2
 go_loopw [9] (fun i wr=>∃k:Nat,k≤m∧i= .int .i64 k∧inNo n l k∧Below w.heap.size w wr) (fun i _=>m-(intOf i).toNat)
 case atStart=>exact⟨0,Nat.zero_le _,O,fun j hj=>by omega,Below.refl _ _⟩
 case round=>
  obtain⟨k,hk,rfl,hno,hbl⟩:=hrel
  by_cases hlt:k<m
  ·obtain⟨b,o,ha,hb,hc⟩:=h.pair (k:=k) (by rw[←Hm.out];exact hlt)
   rw[ha]
   have hcc:=hc k (by rw[←Hm.out];exact hlt)
   have hx:=(hbl.cell (p:=⟨b,o+k * 2,none⟩) hb).trans hcc.1
   have hy:=(hbl.cell (p:=⟨b,o+k * 2+1,none⟩) hb).trans hcc.2
   clear hc ha hcc
   obtain⟨x,hX⟩:∃x,x=(l.getD k (0,0)).1:=⟨_,rfl⟩
   obtain⟨y,hY⟩:∃y,y=(l.getD k (0,0)).2:=⟨_,rfl⟩
   rw[←hX] at hx
   rw[←hY] at hy
   have HX:=Lib.hid hX
   have HY:=Lib.hid hY
   clear hX hY
   by_cases h1:x≤n∧n≤y
   ·have Hfin:=Lib.hid (BU2 n l k (by rw[←Hm.out];exact hlt) (by rw[←HX.out,←HY.out];exact h1))
    obtain⟨h1,h2⟩:=h1
    go_wp2
    go_ret
    exact⟨AQ5 Hfin.out.symm,hbl.alloc hbl.size _⟩
   ·have hno':inNo n l (k+1):=fun j hj=>by
     rcases Nat.lt_or_ge j k with h|h
     ·exact hno j h
     ·obtain rfl:j=k:=by omega
      rw[←HX.out,←HY.out];exact h1
    by_cases h2:x≤n
    all_goals
     go_wp2
     all_goals first
      | (exfalso;omega)
      | (go_roundw
         case rel=>exact⟨k+1,by omega,by go_num,hno',hbl.alloc hbl.size _⟩
         case measure=>simp [intOf];omega)
  ·obtain rfl:k=m:=by omega
   have Hfin:=Lib.hid (Bg4 n l (by rw[←Hm.out];exact hno))
   go_wp2
   go_ret
   exact⟨AQ5 Hfin.out.symm,hbl⟩
def K8:List (Int×Int):=[(0,31),(127,159),(768,879),(8203,8207),(55296,57343),(65024,65039)]
def O8:List (Int×Int):=[(4352,4447),(11904,12350),(12353,19903),(19968,42191),(44032,55203),(63744,64255),(65072,65135),(65280,65376),(65504,65510),(127744,128591),(129280,129535),(131072,262141)]
def Y9:List (Int×Int):=[(0,0),(32,1),(127,0),(160,1),(768,0),(880,1),(4352,2),(4448,1),(8203,0),(8208,1),(11904,2),(12351,1),(12353,2),(19904,1),(19968,2),(42192,1),(44032,2),(55204,1),(63744,2),(64256,1),(65024,0),(65040,1),(65072,2),(65136,1),(65280,2),(65377,1),(65504,2),(65511,1),(127744,2),(128592,1),(129280,2),(129536,1),(131072,2),(262142,1)]
def O3 (n:Int):Bool:=decide ((0≤n∧n≤55295)∨(57344≤n∧n≤1114111))
def T9 (n:Int):Int:=if n<0∨1114111<n∨inTab n K8=true then 0 else if inTab n O8=true then 2 else 1
def refTo (n:Int) (k:Nat):Int:=(Y9.take k).foldl (fun w x=>if x.1≤n then x.2 else w) 0
def J2 (n:Int):Int:=if O3 n=true then refTo n 34 else 0
theorem BM2 (n:Int):0≤T9 n∧T9 n≤2:=by unfold T9;split<;>(try split)<;>omega
def AQ2 (l:List (Int×Int)):List (Nat×Value):=l.zipIdx.map fun (x,i)=>(i,.agg #[.int .i64 x.1,.int .i64 x.2])
def AC6 (l:List (Int×Int)):Array Value:=(AR2 l).toArray
theorem Ap6:Tryz.prog.built 259 (AQ2 K8)=some (AC6 K8):=by kernel_rfl
theorem Ay0:Tryz.prog.built 260 (AQ2 O8)=some (AC6 O8):=by kernel_rfl
theorem Au2:(Tryz.prog.info? 259).map (·.size)=some (AC6 K8).size:=by kernel_rfl
theorem size_two:(Tryz.prog.info? 260).map (·.size)=some (AC6 O8).size:=by kernel_rfl
theorem A87:(AC6 K8).all (·.oneCell')=true:=by kernel_rfl
theorem BE7:(AC6 O8).all (·.oneCell')=true:=by kernel_rfl
theorem BD2 (n:Int) (w:World) (h0:n<0∨1114111<n):
 Calls Tryz.prog 112 #[.int .i64 n] w fun e w'=>e= .returned (.int .i64 (T9 n))∧Below w.heap.size w w':=by
 have Hfin:Hid (T9 n=0):=by unfold Hid T9;rw[if_pos (by omega)]
 have hd:(decide (n<0)||decide (1114111<n))=true:=by simp;omega
 clear h0
 go_enter Tryz.func112,Tryz.ntmps112
 go_wp2_with (first|((with_reducible refine AE4 rfl 259 _ rfl (AQ2 K8) (AC6 K8) ?_ Ap6 ?_);(focus rfl))|((with_reducible refine AE4 rfl 260 _ rfl (AQ2 O8) (AC6 O8) ?_ Ay0 ?_);(focus rfl))|((with_reducible refine x8 rfl 259 _ _ rfl _ w.heap.size _ (AC6 K8) rfl ?_ ?_ ?_ Au2 ?_ A87 ?_);(focus rfl);(focus rfl);(focus rfl);(focus rfl))|((with_reducible refine x8 rfl 260 _ _ rfl _ (w.heap.size+1) _ (AC6 O8) rfl ?_ ?_ ?_ size_two ?_ BE7 ?_);(focus rfl);(focus rfl);(focus simp);(focus rfl)))
 all_goals
  go_ret
  exact⟨AX9 Hfin.out.symm,by go_grown⟩
theorem BI8 (n:Int) (w:World) (h0':0≤n∧n≤1114111):
 Calls Tryz.prog 112 #[.int .i64 n] w fun e w'=>e= .returned (.int .i64 (T9 n))∧Below w.heap.size w w':=by
 have Hfin:Hid (T9 n=if inTab n K8=true then 0 else if inTab n O8=true then 2 else 1):=by
  unfold Hid T9
  by_cases h:inTab n K8=true
  ·rw[if_pos (.inr (.inr h)),if_pos h]
  ·rw[if_neg (by rintro (h1|h1|h1)<;>(first|omega|exact h h1)),if_neg h]
 go_enter Tryz.func112,Tryz.ntmps112
 go_wp2_with (first|((with_reducible refine AE4 rfl 259 _ rfl (AQ2 K8) (AC6 K8) ?_ Ap6 ?_);(focus rfl))|((with_reducible refine AE4 rfl 260 _ rfl (AQ2 O8) (AC6 O8) ?_ Ay0 ?_);(focus rfl))|((with_reducible refine x8 rfl 259 _ _ rfl _ w.heap.size _ (AC6 K8) rfl ?_ ?_ ?_ Au2 ?_ A87 ?_);(focus rfl);(focus rfl);(focus rfl);(focus rfl))|((with_reducible refine x8 rfl 260 _ _ rfl _ (w.heap.size+1) _ (AC6 O8) rfl ?_ ?_ ?_ size_two ?_ BE7 ?_);(focus rfl);(focus rfl);(focus simp);(focus rfl)))
 refine(Bc1 n K8 _ 6 6 _ O (by omega) ((At.newAt (by simp) O).alloc _)).mono ?_
 rintro e w1 ⟨rfl,hb1⟩
 have hb:Below w.heap.size w w1:=by refine Below.trans ?_ (hb1.mono ?_)<;>(go_grown)
 have hat:At w1 (some ⟨w.heap.size+1,0,none⟩) (AR2 O8):=(At.newAt (by simp) rfl).mono hb1
 clear hb1
 cases h1:inTab n K8 with
 | true=>
   rw[h1] at Hfin
   clear h1 hat
   go_wp2_with fail
   go_ret
   exact⟨AX9 Hfin.out.symm,hb⟩
 | false=>
   rw[h1] at Hfin
   clear h1
   go_wp2_with fail
   refine(Bc1 n O8 _ 12 12 _ O (by omega) hat).mono ?_
   rintro e w2 ⟨rfl,hb2⟩
   have hb3:=AS5 hb hb2
   clear hat hb2 hb
   cases h2:inTab n O8
   all_goals
    rw[h2] at Hfin
    clear h2
    go_wp2_with fail
    go_ret
    exact⟨AX9 (by rw[Hfin.out];rfl),hb3⟩
theorem BC0 (n:Int) (w:World):
 Calls Tryz.prog 112 #[.int .i64 n] w fun e w'=>e= .returned (.int .i64 (T9 n))∧Below w.heap.size w w':=by
 by_cases h0:n<0∨1114111<n
 ·exact BD2 n w h0
 ·exact BI8 n w (by omega)
end Go.Proofs.YtmmnimagbnlcmaaGreatDoor
