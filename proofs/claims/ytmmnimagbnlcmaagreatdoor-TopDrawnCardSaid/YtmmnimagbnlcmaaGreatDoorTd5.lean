/- Texts of this claim, merged: Sorts2 ChoQ EnvP IdxG Slc About Slc2 Cho2 Num IdxF NvtQ AnsP Trm ArgP Arg2 CardN TabP TabU Width. -/
import Derived.Test.YtmmnimagbnlcmaaGreatDoorTd4
import Derived.WalkKit
import Derived.WalkSpells
import Derived.WalkLawsBesides
import Derived.Handy
import Derived.Lib.Hide
import Derived.Laws.BitsAllLaws
import Derived.Deep.MidRow
import Derived.Deep.WholeRow
import Derived.BigQuiet
import Derived.Laws.CopyOwn
import Derived.Deep.QuietTactic
import Derived.Laws.AppendOwnNone
import Derived.Laws.MakeOwn
import Derived.Laws.IdiomStrings
import Derived.OrdersHeld
import Derived.Lib.SliceRun
import Derived.ChangeKeysEq
import Derived.Laws.CopyRow
import Derived.Test.YtmmnimagbnlcmaaGreatDoorRows
import Derived.Lib.AppendStr
import Derived.ArgAppend
import Derived.Lib.Replace
import Derived.Lib.Join
import Derived.Lib.IndexLaws
import Derived.Shelf.Strings.Builder1
import Derived.Shelf.Strings.Builder2
import Derived.Shelf.Strings.OnBuilder
import Derived.Shelf.Strings.Trim
import Derived.Shelf.Small.Utf8
import Derived.Shelf.Small.Strs
import Derived.Shelf.Strings.BuilderF
import Derived.Shelf.Strconv.Itoa0
import Derived.Shelf.Strconv.Itoa1
import Derived.Shelf.LaysM
import Derived.Shelf.Strconv.Itoa2
import Derived.Shelf.Strconv.Itoa3
import Derived.Shelf.Strings.Search1
import Derived.Shelf.Strings.Search2
import Derived.Shelf.Strings.Search3
import Derived.Shelf.Strings.Count
import Derived.Shelf.Strings.Shaped
import Derived.Shelf.Strings.LastIndex
import Derived.Shelf.Strings.Prefix
import Derived.Shelf.Strings.Split
import Derived.Shelf.Strings.Replace
import Derived.Shelf.Strings.SplitShaped
import Derived.Shelf.Strings.Runes
import Derived.Shelf.Strings.AsciiSet
import Derived.Shelf.Bits.Mul64
import Derived.Shelf.Strings.Repeat
import Derived.Shelf.Unicode.DecodeSlow
import Derived.Shelf.Unicode.DecodeAny
import Derived.Shelf.Unicode.ValidAny
import Derived.Test.YtmmnimagbnlcmaaGreatDoorProg
import Derived.Lib.ItoaNum
import Derived.Lib.IndexMore
import Derived.Lib.SplitLaws
import Derived.Lib.AppendIntMem
import Derived.ProofKit
import Derived.OpenShut
import Derived.JoinedCond
import Derived.SliceStrings
import Derived.Test.YtmmnimagbnlcmaaGreatDoorCards
import Derived.Test.YtmmnimagbnlcmaaGreatDoorTie
import Derived.Deep.DeepHandedRow
import Derived.Shelf.Vars
import Derived.Lib.LaidU8
import Derived.StillTailTactics
import Derived.RegionTactic
import Derived.ChangeAlike
namespace Go.Proofs.YtmmnimagbnlcmaaGreatDoor
open Go Go.RowKit Go.Fw Go.Sx
set_option maxRecDepth 100000
section
set_option maxHeartbeats 1000000
attribute [local irreducible] SW SL SQ AtQ SV SC BB LD PK Yields SO SOT SOA SY
theorem A18 {s:ByteArray} {i:Nat} (hi:i<s.size) (h:¬(33≤(nums s).getD i 0∧(nums s).getD i 0≤126)):nameB s=false:=by
  unfold nameB
  rw[Bool.and_eq_false_iff]
  right
  rw[List.all_eq_false]
  have hl:i<(nums s).length:=by rw[nums_length];exact hi
  refine⟨(nums s)[i],List.getElem_mem hl,?_⟩
  have e:(nums s).getD i 0=(nums s)[i]:=by simp [List.getD,List.getElem?_eq_getElem hl]
  rw[e] at h
  simp [AY8]
  omega
theorem BF6 {s:ByteArray} (h:∀i,i<s.size→33≤(nums s).getD i 0∧(nums s).getD i 0≤126):nameB s=decide (1≤s.size∧s.size≤40):=by
  unfold nameB
  have:(nums s).all AY8=true:=by
    rw[List.all_eq_true]
    intro x hx
    obtain⟨i,hi,rfl⟩:=List.getElem_of_mem hx
    have:=h i (by rw[←nums_length];exact hi)
    have e:(nums s).getD i 0=(nums s)[i]:=by simp [List.getD,List.getElem?_eq_getElem hi]
    rw[e] at this
    simpa [AY8] using this
  rw[this,Bool.and_true]
theorem Bw9 (G:Ctx) (H:List Ent) (s:ByteArray) (hz:s.size≤maxLen):SV Tryz.prog G 87 [.string s] H (.bool (nameB s)):=by
  have hz':s.size≤9223372036854775807:=hz
  clear hz
  refine M5 Tryz.func87 rfl rfl rfl rfl rfl ?_
  repeat' (first|(apply F3;first|(apply C8;refine A8 ?_)|(apply C9;refine D8 rfl rfl ?_)|(apply D6;refine D9 rfl rfl ?_)|(apply J5;refine s_call (Q3 rfl rfl) rfl ?_))|(apply D7)|(apply F6)|(apply A7)|(apply D5))
  refine R9 (α:=Nat) (fun i=>[(0,.string s),(5,.int .i64 s.size),(6,.int .i64 i)]) (fun _=>H)
    (fun i=>i≤s.size∧∀j,j<i→33≤(nums s).getD j 0∧(nums s).getD j 0≤126) (fun i=>s.size-i) 0 ⟨Nat.zero_le _,fun j hj=>absurd hj (Nat.not_lt_zero _)⟩ (by repeat (first|exact Le.nil _|refine Le.cons (by (rfl)) ?_)) I8 ?_
  rintro i ⟨hi,hs⟩
  have Hs:=Lib.hid hs
  clear hs
  repeat' (first|(apply F3;first|(apply C8;refine A8 ?_)|(apply C9;refine D8 rfl rfl ?_)|(apply E5;refine F5 rfl rfl rfl ?_;first|(refine AI0 ?_)|(first|(apply M0;refine L9 ⟨by omega,by omega⟩ ?_)|refine F7 rfl ?_))|(apply D6;refine D9 rfl rfl ?_)|(apply I6;refine I9 rfl rfl ?_;first|(apply Q9;refine Q8 rfl ?_)|(apply O1;refine O3 rfl ?_))|(apply U8;refine W9 (o8 rfl rfl rfl (by omega) (by omega)) rfl ?_)|(apply J5;refine s_call (Q3 rfl rfl) rfl ?_)|(apply I1;refine J9 rfl rfl rfl rfl ?_;first|(apply I7)|(apply I5)|(apply X9)|(apply O8<;>intro hq<;>(try (exfalso;omega)))|(apply AF0<;>intro hq)))|(apply D7)|(apply G9)|(apply H7)|(apply N8)|(apply F6)|(apply A7)|(refine G5 rfl ?_;first|(apply I7)|(apply E9<;>intro hq<;>(try (exfalso;omega))))|(apply D5)|(apply J4)|(apply J7)|(apply J2)|(apply U1)|(apply J8))
  · refine M3 (by (exact .inr rfl)) rfl N7 ?_
    rw[A18 (i:=i) (by omega) (by rw[Int.toNat_natCast] at hq;omega)];rfl
  · refine J6 (i+1) ⟨⟨by omega,fun j hj=>?_⟩,by omega⟩ (by repeat (first|exact Le.nil _|refine Le.cons (by (rfl)) ?_)) I8
    rcases Nat.lt_or_ge j i with h|h
    · exact Hs.out j h
    · obtain rfl:j=i:=by omega
      rw[Int.toNat_natCast] at *
      omega
  · refine M3 (by (exact .inr rfl)) rfl N7 ?_
    rw[A18 (i:=i) (by omega) (by rw[Int.toNat_natCast] at hq;omega)];rfl
  · obtain rfl:i=s.size:=by omega
    refine M3 (by (exact .inr rfl)) rfl N7 ?_
    rw[BF6 Hs.out]
    refine congrArg Value.bool ?_
    have h1:1≤s.size:=Nat.pos_of_ne_zero fun h0=>of_decide_eq_false (by assumption) (A77 h0)
    rw[decide_eq_decide]
    omega
  · obtain rfl:i=s.size:=by omega
    refine M3 (by (exact .inr rfl)) rfl N7 ?_
    rw[BF6 Hs.out]
    have h1:s=⟨#[]⟩:=of_decide_eq_true (by assumption)
    rw[h1]
    rfl
theorem B21 (xs:List ByteArray) (k:Nat) (h:k<xs.length):(strs xs)[(k:Int).toNat * 1]? =some (.string (xs.getD k ByteArray.empty)):=by
  simp [strs,List.getD,List.getElem?_eq_getElem h]
theorem BM0 (ts:List ByteArray) (q m:Nat) (l h:Int) (hl:l=q) (hh:h=q+m):((strs ts).drop (l.toNat * 1)).take ((h.toNat-l.toNat) * 1)=strs ((ts.drop q).take m):=by
  rw[show l.toNat * 1=q from by omega,show (h.toNat-l.toNat) * 1=m from by omega]
  simp [strs,List.map_take,List.map_drop]
/-- Sorts as they lie. -/
abbrev A74 (a:Option Addr) (n c:Nat) (t:Int):Value:= .agg #[.slice a n c,.int .i64 t]
theorem BT3 (G:Ctx) (H:List Ent) (xs:List ByteArray) (y:ByteArray) {vs:List Value} (a:Option Addr) (n c:Nat) [h1:RdC G H a vs] (hv:vs=strs xs) (hn:n=xs.length) (hm:xs.length≤maxLen):SV Tryz.prog G 88 [.slice a n c,.string y] H (.bool (AA8 xs y)):=by
  subst hv
  exact AA4 (j6 Tryz.func88 rfl rfl) fun w hw=>BM2 xs y a n c w hn hm (h1.here w hw)
theorem AL2 (G:Ctx) (H:List Ent) (l:List ByteArray) (a:Option Addr) (n c:Nat) (t:Int) (hn:n=l.length) (hz:∀x∈l,x.size≤maxLen) (hm:n≤maxLen) [RdC G H a (strs l)] [hC:CapC G H a n c]:SV Tryz.prog G 48 [A74 a n c t] H (.int .i64 (AA6 l t)):=by
  refine Bu4 (j6 Tryz.func48 rfl rfl) fun w0 hw0=>?_
  have hnc:=hC.here w0 hw0
  clear hw0 hC
  have hm':n≤9223372036854775807:=hm
  have hx:∀k,k<n→(strs l)[(k:Int).toNat * 1]? =some (.string (l.getD k ByteArray.empty)):=fun k hk=>B21 l k (by rw[←hn];exact hk)
  have hlx:(strs l).length=n * 1:=by simp [strs,hn]
  have htk:=fun m (h:m≤n)=>(show m=((l.drop 0).take m).length from by simp [←hn];omega)
  have hzk:∀k,k<n→(l.getD k ByteArray.empty).size≤maxLen:=fun k hk=>by
    have hk':k<l.length:=by rw[←hn];exact hk
    have e:l.getD k ByteArray.empty=l[k]:=by simp [List.getD,List.getElem?_eq_getElem hk']
    rw[e];exact hz _ (List.getElem_mem hk')
  have hok:∀k,k<n→okAt l k=(nameB (l.getD k ByteArray.empty)&&!AA8 (l.take k) (l.getD k ByteArray.empty)):=fun k hk=>Bl2 l k (by rw[←hn];exact hk)
  have Hn:=Lib.hid hn
  have Hx:=Lib.hid hx
  have Htk:=Lib.hid htk
  have Hzk:=Lib.hid hzk
  have Hok:=Lib.hid hok
  have Hm:=Lib.hid hm
  clear hn hx htk hzk hok hm hz
  refine M5 Tryz.func48 rfl rfl rfl rfl rfl ?_
  repeat' (first|(apply F3;first|(apply C8;refine A8 ?_)|(apply C9;refine D8 rfl rfl ?_)|(apply E5;refine F5 rfl rfl rfl ?_;refine F7 rfl ?_)|(apply F4;refine F8 rfl rfl ?_;refine G6 rfl ?_)|(apply D6;refine D9 rfl rfl ?_)|(apply I6;refine I9 rfl rfl ?_;first|(apply Q9;refine Q8 rfl ?_)|(apply O1;refine O3 rfl ?_))|(apply G7;refine G8 (E8 rfl rfl) rfl ?_)|(apply J5;refine s_call (Q5 rfl rfl) rfl ?_)|(apply K9;refine O5 rfl rfl rfl rfl rfl rfl (fun _=>?_))|(apply I1;refine J9 rfl rfl rfl rfl ?_;first|(apply I7)|(apply X9)|(apply O8<;>intro hq<;>(try (exfalso;omega)))))|(apply D7)|(apply G9)|(apply H7)|(apply F6)|(apply A7)|(refine G5 rfl ?_;first|(apply I7)|(apply E9<;>intro hq<;>(try (exfalso;omega))))|(apply D5)|(apply J4))
  · refine M3 (by (exact .inr rfl)) rfl N7 ?_
    rw[An0 (by rw[←Hn.out];omega)];rfl
  · rename_i b h1
    refine R9 (α:=Nat) (fun i=>[(1,.pointer (some ⟨b,0,none⟩)),(16,.slice a n c),(17,.int .i64 n),(18,.int .i64 i)]) (fun _=> .blk b 47 [.slice a n c,.int .i64 t]::H)
      (fun i=>i≤n∧okAll l i=true) (fun i=>n-i) 0 ⟨Nat.zero_le _,BL8 l⟩ (by repeat (first|exact Le.nil _|refine Le.cons (by (rfl)) ?_)) I8 ?_
    rintro i ⟨hi,ho⟩
    by_cases hlt:(i:Int)<n
    · have hx:=Hx.out i (by omega)
      have hok:=Hok.out i (by omega)
      have Hok1:=Lib.hid hok
      clear hok
      repeat' (first|(apply F3;first|(apply C8;refine A8 ?_)|(apply C9;refine D8 rfl rfl ?_)|(apply E5;refine F5 rfl rfl rfl ?_;first|(apply M0;refine L9 ⟨by omega,by omega⟩ ?_)|refine F7 rfl ?_)|(apply F4;first|(refine F8 rfl rfl ?_;refine G6 rfl ?_)|(refine F8 rfl rfl ?_;refine X5 hx ?_))|(apply D6;refine D9 rfl rfl ?_)|(apply I6;refine I9 rfl rfl ?_;first|(apply Q9;refine Q8 rfl ?_)|(apply O1;refine O3 rfl ?_))|(apply G7;refine G8 (E8 rfl rfl) rfl ?_)|(apply Y0;refine Z8 (Z7 rfl rfl rfl) rfl ?_)|(apply M4;refine N9 (K6 rfl rfl rfl hlx (by omega) (by omega)) rfl ?_)|(apply H6;first|refine F9 rfl rfl rfl (Bw9 _ _ _ (Hzk.out i (by omega))) rfl rfl ?_ |refine F9 rfl rfl rfl (BT3 _ _ ((l.drop 0).take i) _ _ _ _ (BM0 l 0 i _ _ rfl (by omega)) (by have:=Htk.out i (by omega);omega) (by have:=Htk.out i (by omega);have:=Hm.out;omega)) rfl rfl ?_)|(apply o7;refine AD6 (Hr:=H) rfl rfl rfl rfl rfl RdC.here hlx (by omega) (by omega) (by omega) (by omega) rfl rfl (fun _ _=>?_))|(apply I1;refine J9 rfl rfl rfl rfl ?_;first|(apply I7)|(apply X9)|(apply Aj5<;>intro hq)))|(apply D7)|(apply G9)|(apply H7)|(apply F6)|(apply A7)|(refine G5 rfl ?_;first|(apply I7)|(apply E9<;>intro hq<;>(try (exfalso;omega)))|(apply Ai9<;>intro hq))|(apply D5)|(apply J4)|(apply J2)|(apply U1))
      all_goals first
        | (have ho2:okAt l i=false:=by rw[Hok1.out,show nameB (l.getD i ByteArray.empty)=false from by assumption];rfl
           refine M3 (by (exact .inr rfl)) rfl N7 ?_
           rw[Al9 (by rw[←Hn.out];omega) (As4 ho2 (by rw[←Hn.out];omega))];rfl)
        | (have ho2:okAt l i=false:=by rw[Hok1.out,show AA8 (l.take i) (l.getD i ByteArray.empty)=true from by assumption];simp
           refine M3 (by (exact .inr rfl)) rfl N7 ?_
           rw[Al9 (by rw[←Hn.out];omega) (As4 ho2 (by rw[←Hn.out];omega))];rfl)
        | (have ho2:okAt l i=true:=by rw[Hok1.out,show nameB (l.getD i ByteArray.empty)=true from by assumption,show AA8 (l.take i) (l.getD i ByteArray.empty)=false from by assumption];rfl
           exact J6 (i+1) ⟨⟨by omega,by rw[BM1,ho,ho2];rfl⟩,by omega⟩ (by repeat (first|exact Le.nil _|refine Le.cons (by first|rfl|(exact congrArg some (congrArg (Value.int _) (by omega)))) ?_)) I8)
    · repeat' (first|(apply F3;first|(apply C8;refine A8 ?_)|(apply C9;refine D8 rfl rfl ?_)|(apply E5;refine F5 rfl rfl rfl ?_;refine F7 rfl ?_)|(apply F4;refine F8 rfl rfl ?_;refine G6 rfl ?_)|(apply D6;refine D9 rfl rfl ?_)|(apply I6;refine I9 rfl rfl ?_;first|(apply Q9;refine Q8 rfl ?_)|(apply O1;refine O3 rfl ?_))|(apply G7;refine G8 (E8 rfl rfl) rfl ?_)|(apply J5;refine s_call (Q5 rfl rfl) rfl ?_)|(apply I1;refine J9 rfl rfl rfl rfl ?_;first|(apply I7)|(apply X9)|(apply O8<;>intro hq<;>(try (exfalso;omega)))))|(apply D7)|(apply G9)|(apply H7)|(apply N8)|(apply A7)|(refine G5 rfl ?_;first|(apply I7)|(apply E9<;>intro hq<;>(try (exfalso;omega))))|(apply D5)|(apply J4)|(apply J7)|(apply J8))
      all_goals obtain rfl:i=n:=by omega
      all_goals rw[Hn.out] at ho
      all_goals refine M3 (by (exact .inr rfl)) rfl N7 ?_
      all_goals first
        | (rw[BP2 (by rw[←Hn.out];omega) ho (by rw[←Hn.out];omega)];rfl)
        | (rw[BR2 (by rw[←Hn.out];omega) ho (by rw[←Hn.out];omega)];rfl)
  · refine M3 (by (exact .inr rfl)) rfl N7 ?_
    rw[An0 (by rw[←Hn.out];omega)];rfl
end
section
def joinS (L:List ByteArray) (sep:ByteArray):ByteArray:=⟨(Lib.join (L.map (·.data.toList)) sep.data.toList).toArray⟩
theorem Ac2 (sep:List UInt8):∀r:List ByteArray,(Lib.joinTail sep (r.map (·.data.toList))).length=(r.map (·.size)).sum+r.length * sep.length
  | []=>by simp [Lib.joinTail]
  | x::r=>by
    have h:=Ac2 sep r
    unfold Lib.joinTail at h ⊢
    simp only[List.map_cons,List.flatten_cons,List.length_append,List.sum_cons,List.length_cons,Nat.add_mul,h]
    have:x.data.toList.length=x.size:=rfl
    omega
theorem A64 (L:List ByteArray) (sep:ByteArray):(Lib.join (L.map (·.data.toList)) sep.data.toList).length≤(L.map (·.size)).sum+L.length * sep.size:=by
  cases L with
  | nil=>simp [Lib.join_nil]
  | cons x r=>
    rw[List.map_cons,Lib.join_cons,List.length_append,Ac2]
    simp only[List.map_cons,List.sum_cons,List.length_cons,Nat.add_mul]
    have:x.data.toList.length=x.size:=rfl
    rw[show sep.data.toList.length=sep.size from rfl]
    omega
end
end Go.Proofs.YtmmnimagbnlcmaaGreatDoor
section
namespace Go.Fw
open Go Go.RowKit Go.Sx
/-- A name, a value, is it a user's, has it a value. -/
abbrev Vr:=ByteArray×ByteArray×Bool×Bool
def vrC (v:Vr):List Value:=[.string v.1,.string v.2.1,.bool v.2.2.1,.bool v.2.2.2]
instance :En vrC 4:=⟨fun _=>rfl⟩
abbrev vrV (v:Vr):Value:= .agg (vrC v).toArray
def vrs (L:List Vr):List Value:=L.flatMap vrC
@[simp] theorem Br3 (L:List Vr):(vrs L).length=L.length * 4:=AQ0 L
theorem BC6 (L:List Vr):(vrs L).all (·.oneCell')=true:=BZ2 L fun _=>rfl
/-- A 2 ahead of each byte from 0 to 3. -/
def escI (l:List Int):List Int:=l.flatMap fun x=>if x≤3 then [2,x] else [x]
theorem Bo7 (l m:List Int):escI (l++m)=escI l++escI m:=by simp [escI]
theorem AS8 (l:List Int):(escI l).length≤2 * l.length:=by
  unfold escI
  induction l with
  | nil=>exact Nat.le_refl _
  | cons b l ih=>
    rw[List.flatMap_cons,List.length_append,List.length_cons]
    have:(if b≤3 then [2,b] else [b]).length≤2:=by split<;>simp
    omega
def vI (v:Vr):List Int:=(if v.2.2.1 then 3 else 0)::(escI (nums v.1)++(if v.2.2.2 then 1::escI (nums v.2.1) else []))
def varsI (L:List Vr):List Int:=L.flatMap vI
theorem Ak9 (L:List Vr) (v:Vr):varsI (L++[v])=varsI L++vI v:=by simp [varsI]
def AI3 (L:List Vr):Prop:=20<L.length∨(L.any fun v=>decide (200<v.1.size)||decide (200<v.2.1.size))=true
instance (L:List Vr):Decidable (AI3 L):=by unfold AI3;infer_instance
def formV (v:Vr):Bool:=!v.2.2.2&&decide (v.2.1≠⟨#[]⟩)
def q9 (L:List Vr):ByteArray×Int:=
  if AI3 L then (⟨#[]⟩,2) else if L.any formV then (⟨#[]⟩,4) else (strOfNums (varsI L),0)
theorem A46 {L:List Vr} (h:AI3 L):q9 L=(⟨#[]⟩,2):=if_pos h
theorem A93 {L:List Vr} (h:¬AI3 L) (h2:L.any formV=true):q9 L=(⟨#[]⟩,4):=by unfold q9;rw[if_neg h,if_pos h2]
theorem Ba6 {L:List Vr} (h:¬AI3 L) (h2:L.any formV=false):q9 L=(strOfNums (varsI L),0):=by unfold q9;rw[if_neg h,if_neg (by rw[h2];decide)]
/-- A piece, as environ reads it. -/
def wordI:List Int→List Int×List Int
  | []=>([],[])
  | [x]=>if x≤3 then ([],[x]) else ([x],[])
  | x::y::l=>if x=2 then (y::(wordI l).1,(wordI l).2) else if x≤3 then ([],x::y::l) else (x::(wordI (y::l)).1,(wordI (y::l)).2)
/-- A piece, as the document has it. -/
def An5:List Int→Option (List Int×List Int)
  | []=>some ([],[])
  | [x]=>if x=2 then none else if x≤3 then some ([],[x]) else some ([x],[])
  | x::y::l=>if x=2 then (if y>3 then none else (An5 l).map fun p=>(y::p.1,p.2)) else if x≤3 then some ([],x::y::l) else (An5 (y::l)).map fun p=>(x::p.1,p.2)
/-- One variable at the front. -/
def stepW (l:List Int):Option (Vr×List Int):=
  match l with
  | []=>none
  | x::l=>if x≠0∧x≠3 then none else
    let p:=wordI l
    if p.2[0]? =some 1 then let q:=wordI (p.2.drop 1);some ((strOfNums p.1,strOfNums q.1,decide (x=3),true),q.2)
    else some ((strOfNums p.1,⟨#[]⟩,decide (x=3),false),p.2)
def stepP (l:List Int):Option (Vr×List Int):=
  match l with
  | []=>none
  | x::l=>if x≠0∧x≠3 then none else
    match An5 l with
    | none=>none
    | some p=>if p.2[0]? =some 1 then match An5 (p.2.drop 1) with
        | none=>none
        | some q=>some ((strOfNums p.1,strOfNums q.1,decide (x=3),true),q.2)
      else some ((strOfNums p.1,⟨#[]⟩,decide (x=3),false),p.2)
def many (st:List Int→Option (Vr×List Int)):Nat→List Int→Option (List Vr)
  | _,[]=>some []
  | 0,_::_=>none
  | m+1,x::l=>match st (x::l) with
    | none=>none
    | some (v,r)=>(many st m r).map (v:: ·)
end Go.Fw
end
section
namespace Go.Fw
def gIdx {α:Type} (p:α→Bool) (L:List α):Int:=if L.any p then (L.findIdx p:Nat) else-1
theorem Bz5 {α:Type} {p:α→Bool} {L:List α} {j:Nat} {x:α} (hx:L[j]? =some x) (h:p x=true) (hb:∀y∈L.take j,p y=false):gIdx p L=j:=by
  obtain⟨hj,rfl⟩:=List.getElem?_eq_some_iff.1 hx
  have ha:L.any p=true:=List.any_eq_true.2 ⟨L[j],List.getElem_mem hj,h⟩
  have hf:L.findIdx p=j:=by
    rw[List.findIdx_eq hj]
    refine⟨h,fun i hi=>?_⟩
    have:L[i]'(by omega)∈L.take j:=by
      rw[List.mem_take_iff_getElem]
      exact⟨i,by omega,rfl⟩
    have h2:=hb _ this
    simpa using h2
  unfold gIdx
  rw[if_pos ha,hf]
theorem B05 {α:Type} {p:α→Bool} {L:List α} (hb:∀y∈L,p y=false):gIdx p L= -1:=by
  unfold gIdx
  rw[show L.any p=false from by rw[←Bool.not_eq_true,List.any_eq_true];rintro ⟨x,hx,h⟩;rw[hb x hx] at h;cases h]
  rfl
theorem Bx1 {α:Type} (p:α→Bool) (L:List α):decide (0≤gIdx p L)=L.any p:=by
  unfold gIdx
  cases L.any p<;>simp
theorem A14 {α:Type} {p:α→Bool} {L:List α} {j:Nat} {x:α} (hx:L[j]? =some x) (h:p x=false) (hb:∀y∈L.take j,p y=false):∀y∈L.take (j+1),p y=false:=by
  obtain⟨hj,rfl⟩:=List.getElem?_eq_some_iff.1 hx
  intro y hy
  rw[List.take_succ_eq_append_getElem hj,List.mem_append] at hy
  rcases hy with hy|hy
  · exact hb y hy
  · simp only[List.mem_singleton] at hy;subst hy;exact h
end Go.Fw
namespace Go.Proofs.YtmmnimagbnlcmaaGreatDoor
open Go Go.RowKit Go.Fw Go.Sx
set_option maxRecDepth 100000
set_option maxHeartbeats 1000000
attribute [local irreducible] SW SL SQ AtQ SV SC BB LD PK Yields SO SOT SOA SY
theorem BJ3 (G:Ctx) (H:List Ent) (f:Nat) (caps:List Value) (p:Vr→Bool) (L:List Vr) {vs:List Value} (a:Option Addr) (n c:Nat) [h1:RdC G H a vs] (hv:vs=vrs L) (hn:n=L.length) (hm:L.length≤maxLen) (hf:∀x,x∈L→SV Tryz.prog G f (vrV x::caps) H (.bool (p x))):SV Tryz.prog G 143 [.slice a n c,.func (.func f) #[] caps.toArray] H (.int .i64 (gIdx p L)):=by
  have Hn:=Lib.hid hn
  have hbn:n≤9223372036854775807:=by unfold maxLen at hm;omega
  have hix:∀(k:Nat) x,L[k]? =some x→take? (vs.drop ((k:Int).toNat * 4)) 4=some (vrC x):=fun k x hk=>by subst hv;exact AX0 hk
  have hlx:vs.length=n * 4:=by subst hv;simp [hn]
  have hfk:∀(k:Nat) x,L[k]? =some x→SV Tryz.prog G f (vrV x::caps) H (.bool (p x)):=fun k x hk=>hf x (List.mem_of_getElem? hk)
  have Hix:=Lib.hid hix
  have Hfk:=Lib.hid hfk
  clear hix hf hfk hn hm hv
  refine P7 Tryz.func143 rfl rfl rfl rfl rfl ?_
  repeat' (first|(apply F3;first|(apply C8;refine A8 ?_)|(apply C9;refine D8 rfl rfl ?_)|(apply D6;refine D9 rfl rfl ?_)|(apply J5;refine s_call (Q5 rfl rfl) rfl ?_))|(apply D7)|(apply F6)|(apply A7)|(apply D5))
  refine R9 (α:=Nat) (fun j=>[(0,.slice a n c),(1,.func (.func f) #[] caps.toArray),(7,.int .i64 n),(8,.int .i64 j)]) (fun _=>H)
    (fun j=>j≤n∧∀y∈L.take j,p y=false) (fun j=>n-j) 0 ⟨Nat.zero_le _,fun y hy=>by simp at hy⟩ (by repeat (first|exact Le.nil _|refine Le.cons (by (rfl)) ?_)) I8 ?_
  rintro j ⟨hj,hs⟩
  have Hs:=Lib.hid hs
  clear hs
  by_cases hlt:(j:Int)<n
  · obtain⟨x,hx⟩:=AA3 (X:=L) (k:=j) (by rw[←Hn.out];omega)
    have hxj:=Hix.out j x hx
    have hc:=Hfk.out j x hx
    have Hx:=Lib.hid hx
    clear hx
    cases hp:p x
    · rw[hp] at hc
      repeat' (first|(apply F3;first|(apply C8;refine A8 ?_)|(apply C9;refine D8 rfl rfl ?_)|(apply E5;refine F5 rfl rfl rfl ?_;first|(apply M0;refine L9 ⟨by omega,by omega⟩ ?_)|refine F7 rfl ?_)|(apply F4;refine F8 rfl rfl ?_;refine Y5 hxj rfl ?_)|(apply D6;refine D9 rfl rfl ?_)|(apply M4;refine N9 (K6 rfl rfl rfl hlx (by omega) (by omega)) rfl ?_)|(refine AJ5 rfl rfl rfl rfl hc rfl rfl ?_))|(apply D7)|(apply G9)|(apply F6)|(apply A7)|(refine G5 rfl ?_;first|(apply I5)|(apply E9<;>intro hq<;>(try (exfalso;omega))))|(apply D5)|(apply J2))
      exact J6 (j+1) ⟨⟨by omega,A14 Hx.out hp Hs.out⟩,by omega⟩ (by repeat (first|exact Le.nil _|refine Le.cons (by (rfl)) ?_)) I8
    · rw[hp] at hc
      repeat' (first|(apply F3;first|(apply C8;refine A8 ?_)|(apply C9;refine D8 rfl rfl ?_)|(apply E5;refine F5 rfl rfl rfl ?_;refine F7 rfl ?_)|(apply F4;refine F8 rfl rfl ?_;refine Y5 hxj rfl ?_)|(apply D6;refine D9 rfl rfl ?_)|(apply M4;refine N9 (K6 rfl rfl rfl hlx (by omega) (by omega)) rfl ?_)|(refine AJ5 rfl rfl rfl rfl hc rfl rfl ?_))|(apply D7)|(apply G9)|(apply H7)|(apply F6)|(apply A7)|(refine G5 rfl ?_;first|(apply I7)|(apply E9<;>intro hq<;>(try (exfalso;omega))))|(apply D5)|(apply J4)|(apply U1))
      refine M3 (by (exact .inr rfl)) rfl N7 ?_
      rw[Bz5 Hx.out hp Hs.out]
      rfl
  · obtain rfl:j=n:=by omega
    repeat' (first|(apply F3;first|(apply C8;refine A8 ?_)|(apply E5;refine F5 rfl rfl rfl ?_;refine F7 rfl ?_)|(apply D6;refine D9 rfl rfl ?_))|(apply D7)|(apply H7)|(apply N8)|(apply A7)|(refine G5 rfl ?_;apply E9<;>intro hq<;>(try (exfalso;omega)))|(apply D5)|(apply J7)|(apply J8))
    refine M3 (by (exact .inr rfl)) rfl N7 ?_
    rw[B05 (by rw[Hn.out,List.take_length] at Hs;exact Hs.out)]
    rfl
theorem An2 (G:Ctx) (H:List Ent) (f:Nat) (caps:List Value) (p:Vr→Bool) (L:List Vr) {vs:List Value} (a:Option Addr) (n c:Nat) [h1:RdC G H a vs] (hv:vs=vrs L) (hn:n=L.length) (hm:L.length≤maxLen) (hf:∀x,x∈L→SV Tryz.prog G f (vrV x::caps) H (.bool (p x))):SV Tryz.prog G 89 [.slice a n c,.func (.func f) #[] caps.toArray] H (.bool (L.any p)):=by
  have hc:=BJ3 G H f caps p L a n c hv hn hm hf
  rw[←Bx1]
  generalize gIdx p L=r at *
  clear hf
  refine P7 Tryz.func89 rfl rfl rfl rfl rfl ?_
  repeat' (first|(apply F3;first|(apply C8;refine A8 ?_)|(apply C9;refine D8 rfl rfl ?_)|(apply E5;refine F5 rfl rfl rfl ?_;refine F7 rfl ?_)|(apply D6;refine D9 rfl rfl ?_)|(apply H6;refine F9 rfl rfl rfl (hc) rfl rfl ?_))|(apply D7)|(apply H7)|(apply A7)|(apply D5))
  refine M3 (by (exact .inr rfl)) rfl N7 ?_
  (exact Aj1 (by omega))
end Go.Proofs.YtmmnimagbnlcmaaGreatDoor
end
section
namespace Go.Fw
open Go Go.RowKit Go.Sx
/-- Level and key of a function, of 38 numbers. -/
def kLv (L:List Int) (f:Nat):Int:=L.getD f 0
def kCh (L:List Int) (f:Nat):Int:=L.getD (19+f) 0
def kSet (L:List Int) (f:Nat) (x y:Int):List Int:=(L.set f x).set (19+f) y
/-- Numbers of bytes. -/
def Oct (x:Int):Prop:=0≤x∧x≤255
def keyOk (L:List Int):Bool:=(List.range 19).all fun j=>decide (kLv L j≤2)
def keysE (L:List Int):Int:=if keyOk L=true∧kLv L 0=0∧kCh L 0=0 then 0 else 4
/-- A triple: the keys behind it, and what is said. -/
def tripS (L:List Int) (f g c:Int):List Int×List Int:=
  if ¬(1≤f∧f≤18) then (if 128≤g then (L,[]) else (L,[f,0,0]))
  else if g % 4=kLv L f.toNat∧c=kCh L f.toNat then (L,[])
  else if 128≤g then (if g % 4=3 then (L,[]) else (kSet L f.toNat (g % 4) c,[]))
  else if g % 4=0 then (kSet L f.toNat 0 c,[f,128,c])
  else if g % 4=3 then (L,[f,kLv L f.toNat,kCh L f.toNat])
  else if kLv L f.toNat=1∧g % 4=1 then (kSet L f.toNat 0 0,[f,0,0])
  else if kLv L f.toNat=1 then (L,[f,1,kCh L f.toNat])
  else (kSet L f.toNat (g % 4) c,[f,128+g % 4,c])
theorem Bo3 {L:List Int} (h:∀x∈L,Oct x) (k:Nat):Oct (L.getD k 0):=by
  rcases Nat.lt_or_ge k L.length with hk|hk
  · have e:L.getD k 0=L[k]:=by simp [List.getD,List.getElem?_eq_getElem hk]
    rw[e];exact h _ (List.getElem_mem hk)
  · have e:L.getD k 0=0:=by simp [List.getD,List.getElem?_eq_none hk]
    rw[e];exact⟨by omega,by omega⟩
/-- The first i triples of a message. -/
def runS (L D:List Int):Nat→List Int×List Int
  | 0=>(L,[])
  | i+1=>((tripS (runS L D i).1 (D.getD (3 * i) 0) (D.getD (3 * i+1) 0) (D.getD (3 * i+2) 0)).1,(runS L D i).2++(tripS (runS L D i).1 (D.getD (3 * i) 0) (D.getD (3 * i+1) 0) (D.getD (3 * i+2) 0)).2)
theorem Bi9 (L:List Int) (k:Nat) (v:Int):(octs L).set k (.int .u8 v)=octs (L.set k v):=by simp [octs,List.map_set]
theorem AX3 (L:List Int) (k:Nat) (h:k<L.length):(octs L)[k]? =some (.int .u8 (L.getD k 0)):=by
  simp [octs,List.getD,List.getElem?_eq_getElem h]
theorem AA7 (L:List Int):(octs L).length=L.length:=by simp [octs]
theorem Ba2 {L:List Int} {j:Nat} (hj:j<19) (h:¬kLv L j≤2):keysE L=4:=by
  unfold keysE keyOk
  rw[if_neg]
  rintro ⟨h1,-⟩
  rw[List.all_eq_true] at h1
  exact h (by simpa using h1 j (List.mem_range.2 hj))
theorem BT9 {L:List Int} (h:∀j,j<19→kLv L j≤2):keysE L=if kLv L 0=0∧kCh L 0=0 then 0 else 4:=by
  unfold keysE keyOk
  have:((List.range 19).all fun j=>decide (kLv L j≤2))=true:=by
    rw[List.all_eq_true]
    exact fun j hj=>by simpa using h j (List.mem_range.1 hj)
  rw[this]
  simp
end Go.Fw
end
namespace Go.Proofs.YtmmnimagbnlcmaaGreatDoor
open Go Go.RowKit Go.Fw Go.Sx
set_option maxRecDepth 100000
section
open Go.RowKit Go.Fw
theorem u8i:(Tryz.prog.info? 5).map (fun i=>(i.zero,i.size,i.bytes))=some (some (.int .u8 0),1,1):=by kernel_rfl
end
section
set_option maxHeartbeats 1000000
attribute [local irreducible] SW SL SQ AtQ SV SC BB LD PK Yields SO SOT SOA SY
abbrev keysV (L:List Int):Value:= .agg (octs L).toArray
theorem AR5:∀(l:List Value) (k:Nat),k≤l.length→take? l k=some (l.take k)
  | l,0,_=>by simp [take?]
  | [],k+1,h=>by simp at h
  | x::l,k+1,h=>by
    unfold take?
    rw[AR5 l k (by simpa using h)]
    rfl
theorem BK1 (L:List Int) (h:L.length=38):take? ((octs L).drop 0) 19=some (octs (L.take 19)):=by
  rw[List.drop_zero,AR5 _ _ (by rw[AA7];omega)]
  simp [octs,List.map_take]
theorem B33 (L:List Int) (h:L.length=38) (f:Int) (hf:0≤f∧f≤18):(octs L)[0+f.toNat * 1]? =some (.int .u8 (kLv L f.toNat)):=by
  rw[show 0+f.toNat * 1=f.toNat from by omega]
  exact AX3 L _ (by omega)
theorem Bv5 (L:List Int) (h:L.length=38) (f:Int) (hf:0≤f∧f≤18):(octs L)[19+f.toNat * 1]? =some (.int .u8 (kCh L f.toNat)):=by
  rw[show 19+f.toNat * 1=19+f.toNat from by omega]
  exact AX3 L _ (by omega)
theorem AV1 (G:Ctx) (H:List Ent) (L:List Int) (hL:L.length=38):SV Tryz.prog G 72 [keysV L] H (.int .i64 (keysE L)):=by
  have hp:=BK1 L hL
  have h0:=B33 L hL 0 ⟨by omega,by omega⟩
  have h1:=Bv5 L hL 0 ⟨by omega,by omega⟩
  have hj:∀j:Nat,j<19→(octs (L.take 19))[(j:Int).toNat]? =some (.int .u8 (kLv L j)):=fun j hj=>by
    rw[Int.toNat_natCast,AX3 _ _ (by rw[List.length_take];omega)]
    unfold kLv
    simp only[List.getD_eq_getElem?_getD,List.getElem?_take_of_lt hj]
  have Hj:=Lib.hid hj
  clear hj
  refine M5 Tryz.func72 rfl rfl rfl rfl rfl ?_
  repeat' (first|(apply F3;first|(apply C8;refine A8 ?_)|(apply C9;refine D8 rfl rfl ?_)|(apply F4;refine F8 rfl rfl ?_;refine L8 hp rfl ?_)|(apply D6;refine D9 rfl rfl ?_)|(apply G7;refine G8 (E8 rfl rfl) rfl ?_)|(apply K9;refine O5 rfl rfl rfl rfl rfl rfl (fun _=>?_)))|(apply D7)|(apply F6)|(apply A7)|(apply D5))
  rename_i b
  refine R9 (α:=Nat) (fun j=>[(1,.pointer (some ⟨b,0,none⟩)),(6,.agg (octs (L.take 19)).toArray),(7,.int .i64 j)]) (fun _=> .blk b 51 (octs L)::H)
    (fun j=>j≤19∧∀i,i<j→kLv L i≤2) (fun j=>19-j) 0 ⟨Nat.zero_le _,fun i hi=>absurd hi (Nat.not_lt_zero _)⟩ (by repeat (first|exact Le.nil _|refine Le.cons (by (rfl)) ?_)) I8 ?_
  rintro j ⟨hj,hs⟩
  have Hs:=Lib.hid hs
  clear hs
  by_cases hlt:(j:Int)<19
  · have hv:=Hj.out j (by omega)
    repeat' (first|(apply F3;first|(apply C8;refine A8 ?_)|(apply C9;refine D8 rfl rfl ?_)|(apply E5;refine F5 rfl rfl rfl ?_;first|(apply M0;refine L9 ⟨by omega,by omega⟩ ?_)|refine F7 rfl ?_)|(apply D6;refine D9 rfl rfl ?_)|(apply U8;refine W9 (AK8 rfl rfl rfl (by omega) (by omega) hv) rfl ?_))|(apply D7)|(apply G9)|(apply H7)|(apply F6)|(apply A7)|(refine G5 rfl ?_;apply E9<;>intro hq<;>(try (exfalso;omega)))|(apply D5)|(apply J4)|(apply J2)|(apply U1))
    · refine M3 (by (exact .inr rfl)) rfl N7 ?_
      rw[Ba2 (j:=j) (by omega) (by omega)];rfl
    · refine J6 (j+1) ⟨⟨by omega,fun i hi=>?_⟩,by omega⟩ (by repeat (first|exact Le.nil _|refine Le.cons (by (rfl)) ?_)) I8
      rcases Nat.lt_or_ge i j with h|h
      · exact Hs.out i h
      · obtain rfl:i=j:=by omega
        omega
  · obtain rfl:j=19:=by omega
    have he:=BT9 Hs.out
    repeat' (first|(apply F3;first|(apply C8;refine A8 ?_)|(apply C9;refine D8 rfl rfl ?_)|(apply E5;refine F5 rfl rfl rfl ?_;refine F7 rfl ?_)|(apply F4;refine F8 rfl rfl ?_;first|refine G6 h0 ?_ |refine G6 h1 ?_)|(apply D6;refine D9 rfl rfl ?_)|(apply I6;refine I9 rfl rfl ?_;first|(apply Q9;refine Q8 rfl ?_)|(apply O1;refine O3 rfl ?_))|(apply G7;refine G8 (E8 rfl rfl) rfl ?_)|(apply M4;refine N9 (AB7 rfl rfl rfl (by omega) (by omega)) rfl ?_)|(apply I1;refine J9 rfl rfl rfl rfl ?_;first|(apply I7)|(apply X9)|(apply AP0<;>intro hq<;>(try (exfalso;omega)))))|(apply D7)|(apply G9)|(apply H7)|(apply N8)|(apply A7)|(refine G5 rfl ?_;first|(apply I7)|(apply I5)|(apply X6<;>intro hq<;>(try (exfalso;omega))))|(apply D5)|(apply J4)|(apply J7)|(apply J8))
    all_goals rw[show Int.toNat 0=0 from rfl] at *
    · refine M3 (by (exact .inr rfl)) rfl N7 ?_
      rw[he,if_neg (by omega)];rfl
    · refine M3 (by (exact .inr rfl)) rfl N7 ?_
      rw[he,if_pos (by omega)];rfl
    · refine M3 (by (exact .inr rfl)) rfl N7 ?_
      rw[he,if_neg (by omega)];rfl
end
section
set_option maxHeartbeats 1000000
attribute [local irreducible] SW SL SQ AtQ SV SC BB LD PK Yields SO SOT SOA SY
theorem Bj9 (G:Ctx) (H:List Ent) (L:List ByteArray) (sep:ByteArray) {vs:List Value} (a:Option Addr) (n c:Nat) [h1:RdC G H a vs] (hv:vs=strs L) (hn:n=L.length) (h0:1≤n) (hnc:n≤c) (hl:(L.map (·.size)).sum+L.length * sep.size≤140737488355328) (hlen:L.length≤1000):SV Tryz.prog G 176 [.slice a n c,.string sep] H (.string (joinS L sep)):=by
  subst hv hn
  refine AA4 (j6 Tryz.func176 rfl rfl) fun w hw=>?_
  rcases h1.here w hw with h|⟨b,off,rfl,hb,hc⟩
  · have:L=[]:=by simpa [strs] using h
    subst this
    simp at h0
  · exact Tryz.strings_Join b off c L sep w (fun j x hj=>by
      have hj':j<(strs L).length:=by simp [strs];exact(List.getElem?_eq_some_iff.1 hj).1
      rw[hc j hj']
      simp [strs,hj]) hb (by omega) hnc (Nat.le_trans (A64 L sep) hl)
end
section
set_option maxHeartbeats 1000000
attribute [local irreducible] SW SL SQ AtQ SV SC BB LD PK Yields SO SOT SOA SY
/-- A number's digits. -/
def numB (n:Nat):ByteArray:=⟨(Lib.decDigits n).toArray⟩
theorem Bf4 (n:Nat) (h:¬n<10):numB (n / 10)++numB (n % 10)=numB n:=by
  apply ByteArray.ext
  apply Array.ext'
  show (numB (n / 10)++numB (n % 10)).data.toList=Lib.decDigits n
  rw[ByteArray.data_append,Array.toList_append]
  show Lib.decDigits (n / 10)++Lib.decDigits (n % 10)=_
  rw[Lib.decDigits_one (show n % 10<10 by omega)]
  conv=>rhs;rw[Lib.decDigits]
  rw[dif_neg h]
theorem Ad7:∀(k n:Nat),n<10 ^ (k+1)→(numB n).size≤k+1
  | 0,n,h=>by
    have e:(numB n).size=(Lib.decDigits n).length:=List.size_toArray
    rw[e,Lib.decDigits_one (by omega)]
    exact Nat.le_refl _
  | k+1,n,h=>by
    by_cases h10:n<10
    · have e:(numB n).size=(Lib.decDigits n).length:=List.size_toArray
      rw[e,Lib.decDigits_one h10]
      simp
    · rw[←Bf4 n h10,ByteArray.size_append]
      have h1:=Ad7 k (n / 10) (by rw[Nat.pow_succ] at h;omega)
      have h2:=Ad7 0 (n % 10) (by omega)
      omega
end
end Go.Proofs.YtmmnimagbnlcmaaGreatDoor
section
namespace Go.Fw
def fIdx (p:Int→Bool) (xs:List Int):Int:=if xs.any p then (xs.findIdx p:Nat) else-1
theorem Bx5 {p:Int→Bool} {xs:List Int} {j:Nat} (hj:j<xs.length) (h:p (xs.getD j 0)=true) (hb:∀i,i<j→p (xs.getD i 0)=false):fIdx p xs=j:=by
  have hm:xs.getD j 0=xs[j]:=by rw[List.getD_eq_getElem?_getD,List.getElem?_eq_getElem hj];rfl
  have ha:xs.any p=true:=List.any_eq_true.2 ⟨xs[j],List.getElem_mem hj,by rw[←hm];exact h⟩
  have hf:xs.findIdx p=j:=by
    rw[List.findIdx_eq hj]
    refine⟨by rw[←hm];exact h,fun i hi=>?_⟩
    have:=hb i hi
    rw[List.getD_eq_getElem?_getD,List.getElem?_eq_getElem (by omega:i<xs.length)] at this
    exact this
  unfold fIdx
  rw[if_pos ha,hf]
theorem B73 {p:Int→Bool} {xs:List Int} (hb:∀i,i<xs.length→p (xs.getD i 0)=false):xs.any p=false:=by
  rw[←Bool.not_eq_true,List.any_eq_true]
  rintro ⟨x,hx,h⟩
  obtain⟨i,hi,rfl⟩:=List.getElem_of_mem hx
  have:=hb i hi
  rw[List.getD_eq_getElem?_getD,List.getElem?_eq_getElem hi] at this
  rw[Option.getD_some] at this
  rw[this] at h
  cases h
theorem Bs9 {p:Int→Bool} {xs:List Int} (hb:∀i,i<xs.length→p (xs.getD i 0)=false):fIdx p xs= -1:=by
  unfold fIdx
  rw[B73 hb]
  rfl
theorem Br0 (p:Int→Bool) (xs:List Int):decide (0≤fIdx p xs)=xs.any p:=by
  unfold fIdx
  cases xs.any p<;>simp
theorem Ai7 {xs:List Int} {j:Nat} (hj:j<xs.length):xs.getD j 0∈xs:=by
  rw[List.getD_eq_getElem?_getD,List.getElem?_eq_getElem hj]
  exact List.getElem_mem hj
end Go.Fw
namespace Go.Proofs.YtmmnimagbnlcmaaGreatDoor
open Go Go.RowKit Go.Fw Go.Sx
set_option maxRecDepth 100000
set_option maxHeartbeats 1000000
attribute [local irreducible] SW SL SQ AtQ SV SC BB LD PK Yields SO SOT SOA SY
theorem BI9 (G:Ctx) (H:List Ent) (f:Nat) (p:Int→Bool) (xs:List Int) {vs:List Value} (a:Option Addr) (n c:Nat) [h1:RdC G H a vs] (hv:vs=ints xs) (hn:n=xs.length) (hm:xs.length≤maxLen) (hf:∀H x,x∈xs→SV Tryz.prog G f [.int .i64 x] H (.bool (p x))):SV Tryz.prog G 150 [.slice a n c,.func (.func f) #[] #[]] H (.int .i64 (fIdx p xs)):=by
  subst hv
  have Hn:=Lib.hid hn
  have hbn:n≤9223372036854775807:=by unfold maxLen at hm;omega
  have hix:∀k,k<n→(ints xs)[(k:Int).toNat * 1]? =some (.int .i64 (xs.getD k 0)):=fun k hk=>ints_at xs k (by rw[←Hn.out];exact hk)
  have hlx:(ints xs).length=n * 1:=by simp [ints,hn]
  have hfk:∀H k,k<n→SV Tryz.prog G f [.int .i64 (xs.getD k 0)] H (.bool (p (xs.getD k 0))):=fun H k hk=>hf H _ (Ai7 (by rw[←Hn.out];exact hk))
  have Hix:=Lib.hid hix
  have Hfk:=Lib.hid hfk
  clear hix hf hfk hn hm
  refine P7 Tryz.func150 rfl rfl rfl rfl rfl ?_
  repeat' (first|(apply F3;first|(apply C8;refine A8 ?_)|(apply C9;refine D8 rfl rfl ?_)|(apply D6;refine D9 rfl rfl ?_)|(apply J5;refine s_call (Q5 rfl rfl) rfl ?_))|(apply D7)|(apply F6)|(apply A7)|(apply D5))
  refine R9 (α:=Nat) (fun j=>[(0,.slice a n c),(1,.func (.func f) #[] #[]),(7,.int .i64 n),(8,.int .i64 j)]) (fun _=>H)
    (fun j=>j≤n∧∀i,i<j→p (xs.getD i 0)=false) (fun j=>n-j) 0 ⟨Nat.zero_le _,fun i hi=>absurd hi (Nat.not_lt_zero _)⟩ (by repeat (first|exact Le.nil _|refine Le.cons (by (rfl)) ?_)) I8 ?_
  rintro j ⟨hj,hs⟩
  have Hs:=Lib.hid hs
  clear hs
  by_cases hlt:(j:Int)<n
  · have hxj:=Hix.out j (by omega)
    have hc:=fun H=>Hfk.out H j (by omega)
    generalize hx:xs.getD j 0=x at *
    cases hp:p x
    · rw[hp] at hc
      repeat' (first|(apply F3;first|(apply C8;refine A8 ?_)|(apply C9;refine D8 rfl rfl ?_)|(apply E5;refine F5 rfl rfl rfl ?_;first|(apply M0;refine L9 ⟨by omega,by omega⟩ ?_)|refine F7 rfl ?_)|(apply F4;refine F8 rfl rfl ?_;refine X5 hxj ?_)|(apply D6;refine D9 rfl rfl ?_)|(apply M4;refine N9 (K6 rfl rfl rfl hlx (by omega) (by omega)) rfl ?_)|(refine AJ5 rfl rfl rfl rfl (hc _) rfl rfl ?_))|(apply D7)|(apply G9)|(apply F6)|(apply A7)|(refine G5 rfl ?_;first|(apply I5)|(apply E9<;>intro hq<;>(try (exfalso;omega))))|(apply D5)|(apply J2))
      refine J6 (j+1) ⟨⟨by omega,fun i hi=>?_⟩,by omega⟩ (by repeat (first|exact Le.nil _|refine Le.cons (by (rfl)) ?_)) I8
      rcases Nat.lt_or_ge i j with h|h
      · exact Hs.out i h
      · obtain rfl:i=j:=by omega
        rw[hx];exact hp
    · rw[hp] at hc
      repeat' (first|(apply F3;first|(apply C8;refine A8 ?_)|(apply C9;refine D8 rfl rfl ?_)|(apply E5;refine F5 rfl rfl rfl ?_;refine F7 rfl ?_)|(apply F4;refine F8 rfl rfl ?_;refine X5 hxj ?_)|(apply D6;refine D9 rfl rfl ?_)|(apply M4;refine N9 (K6 rfl rfl rfl hlx (by omega) (by omega)) rfl ?_)|(refine AJ5 rfl rfl rfl rfl (hc _) rfl rfl ?_))|(apply D7)|(apply G9)|(apply H7)|(apply F6)|(apply A7)|(refine G5 rfl ?_;first|(apply I7)|(apply E9<;>intro hq<;>(try (exfalso;omega))))|(apply D5)|(apply J4)|(apply U1))
      refine M3 (by (exact .inr rfl)) rfl N7 ?_
      rw[Bx5 (j:=j) (by rw[←Hn.out];omega) (by rw[hx];exact hp) Hs.out]
      rfl
  · obtain rfl:j=n:=by omega
    repeat' (first|(apply F3;first|(apply C8;refine A8 ?_)|(apply E5;refine F5 rfl rfl rfl ?_;refine F7 rfl ?_)|(apply D6;refine D9 rfl rfl ?_))|(apply D7)|(apply H7)|(apply N8)|(apply A7)|(refine G5 rfl ?_;apply E9<;>intro hq<;>(try (exfalso;omega)))|(apply D5)|(apply J7)|(apply J8))
    refine M3 (by (exact .inr rfl)) rfl N7 ?_
    rw[Bs9 (by rw[←Hn.out];exact Hs.out)]
    rfl
theorem AR7 (G:Ctx) (H:List Ent) (f:Nat) (p:Int→Bool) (xs:List Int) {vs:List Value} (a:Option Addr) (n c:Nat) [h1:RdC G H a vs] (hv:vs=ints xs) (hn:n=xs.length) (hm:xs.length≤maxLen) (hf:∀H x,x∈xs→SV Tryz.prog G f [.int .i64 x] H (.bool (p x))):SV Tryz.prog G 103 [.slice a n c,.func (.func f) #[] #[]] H (.bool (xs.any p)):=by
  have hc:=BI9 G H f p xs a n c hv hn hm hf
  rw[←Br0]
  generalize fIdx p xs=r at *
  clear hf
  refine P7 Tryz.func103 rfl rfl rfl rfl rfl ?_
  repeat' (first|(apply F3;first|(apply C8;refine A8 ?_)|(apply C9;refine D8 rfl rfl ?_)|(apply E5;refine F5 rfl rfl rfl ?_;refine F7 rfl ?_)|(apply D6;refine D9 rfl rfl ?_)|(apply H6;refine F9 rfl rfl rfl (hc) rfl rfl ?_))|(apply D7)|(apply H7)|(apply A7)|(apply D5))
  refine M3 (by (exact .inr rfl)) rfl N7 ?_
  (exact Aj1 (by omega))
end Go.Proofs.YtmmnimagbnlcmaaGreatDoor
end
section
namespace Go.Fw
open Go Go.Lib
theorem AV5 (c:UInt8):∀(a b:List UInt8),¬c∈a→index (a++c::b) [c]=((a.length:Nat):Int)
  | [],b,_=>by
    show index (c::b) [c]=0
    unfold index
    simp
  | x::a,b,h=>by
    have h1:¬c=x:=fun e=>h (by rw[e];exact List.mem_cons_self)
    have ih:=AV5 c a b fun e=>h (List.mem_cons_of_mem _ e)
    show index (x::(a++c::b)) [c]=_
    unfold index
    have hp:([c].isPrefixOf (x::(a++c::b)))=false:=by simp only[List.isPrefixOf,Bool.and_true];exact beq_eq_false_iff_ne.2 h1
    rw[hp,ih]
    simp
theorem Av0 (c:UInt8):∀(l:List UInt8),¬c∈l→index l [c]= -1
  | [],_=>rfl
  | x::l,h=>by
    have h1:¬c=x:=fun e=>h (by rw[e];exact List.mem_cons_self)
    have ih:=Av0 c l fun e=>h (List.mem_cons_of_mem _ e)
    unfold index
    have hp:([c].isPrefixOf (x::l))=false:=by simp only[List.isPrefixOf,Bool.and_true];exact beq_eq_false_iff_ne.2 h1
    rw[hp,ih]
    rfl
/-- A string of a list of bytes. -/
abbrev ba (l:List UInt8):ByteArray:=⟨l.toArray⟩
end Go.Fw
end
namespace Go.Proofs.YtmmnimagbnlcmaaGreatDoor
open Go Go.RowKit Go.Fw Go.Sx
set_option maxRecDepth 100000
section
/-- The words between marks. -/
def u7 (c:UInt8) (acc:List UInt8):List UInt8→List (List UInt8)
  | []=>[acc]
  | b::l=>if b=c then acc::u7 c [] l else u7 c (acc++[b]) l
theorem Ab8 (c:UInt8):∀(l acc:List UInt8),¬c∈l→u7 c acc l=[acc++l]
  | [],acc,_=>by simp [u7]
  | b::l,acc,h=>by
    have hb:¬b=c:=fun e=>h (e▸List.mem_cons_self)
    rw[u7,if_neg hb,Ab8 c l _ (fun x=>h (List.mem_cons_of_mem _ x)),List.append_assoc];rfl
theorem AS7 (c:UInt8):∀(a b acc:List UInt8),¬c∈a→u7 c acc (a++c::b)=(acc++a)::u7 c [] b
  | [],b,acc,_=>by rw[List.nil_append,u7,if_pos rfl,List.append_nil]
  | x::a,b,acc,h=>by
    have hb:¬x=c:=fun e=>h (e▸List.mem_cons_self)
    rw[List.cons_append,u7,if_neg hb,AS7 c a b _ (fun y=>h (List.mem_cons_of_mem _ y)),List.append_assoc];rfl
theorem A96 (c:UInt8):∀(k:Nat) (l:List UInt8),Lib.count l [c]=k→Lib.splitK [c] 0 k l=u7 c [] l:=by
  intro k
  induction k with
  | zero=>
    intro l h
    have hn:¬c∈l:=fun hm=>by
      obtain⟨a,b,rfl,ha⟩:=List.eq_append_cons_of_mem hm
      have:=Lib.count_hit (by simp) (AV5 c a b ha)
      omega
    rw[Lib.splitK,Ab8 c l [] hn];rfl
  | succ k ih=>
    intro l h
    by_cases hm:c∈l
    · obtain⟨a,b,rfl,ha⟩:=List.eq_append_cons_of_mem hm
      have hi:=AV5 c a b ha
      have hc:=Lib.count_hit (by simp) hi
      have e1:(a++c::b).drop (a.length+1)=b:=by rw[List.drop_length_add_append];rfl
      have hlc:[c].length=1:=rfl
      rw[hlc,e1] at hc
      rw[Lib.splitK,hi,if_neg (by simp),hlc,Nat.add_zero,Int.toNat_natCast,e1,List.take_left,ih b (by omega),AS7 c a b [] ha,List.nil_append]
    · have h2:=Lib.count_miss (Av0 c l hm)
      omega
theorem Ab4 (c:UInt8):∀(l acc w:List UInt8),w∈u7 c acc l→w.length≤acc.length+l.length
  | [],acc,w,h=>by simp only[u7,List.mem_singleton] at h;subst h;exact Nat.le_refl _
  | b::l,acc,w,h=>by
    unfold u7 at h
    split at h
    · rcases List.mem_cons.1 h with rfl|h
      · omega
      · have:=Ab4 c l [] w h;simp at this ⊢;omega
    · have:=Ab4 c l _ w h;simp at this ⊢;omega
def baL (l:List UInt8):ByteArray:=⟨l.toArray⟩
theorem Bd2 (d:ByteArray):baL d.data.toList=d:=by cases d;rfl
def AF5 (c:UInt8) (d:ByteArray):List ByteArray:=(u7 c [] d.data.toList).map baL
theorem Ab9 (c:UInt8) (d:ByteArray):Lib.splitB ⟨#[c]⟩ 0 (Lib.countB d ⟨#[c]⟩) d=AF5 c d:=by
  have h:=Lib.splitB_data ⟨#[c]⟩ 0 (Lib.countB d ⟨#[c]⟩) d
  have h2:=A96 c (Lib.countB d ⟨#[c]⟩) d.data.toList rfl
  unfold AF5
  rw[←h2,show [c]=(⟨#[c]⟩:ByteArray).data.toList from rfl,←h,List.map_map]
  conv=>lhs;rw[←List.map_id (Lib.splitB ⟨#[c]⟩ 0 (Lib.countB d ⟨#[c]⟩) d)]
  exact List.map_congr_left fun x _=>(Bd2 x).symm
theorem A30 (c:UInt8) (d:ByteArray):Lib.countB d ⟨#[c]⟩+1=(AF5 c d).length:=by
  rw[←Ab9,Lib.splitB_all ⟨#[c]⟩ (Nat.le_refl 1) 0 _ d rfl]
end
end Go.Proofs.YtmmnimagbnlcmaaGreatDoor
section
namespace Go.Sx
open Go Go.RowKit Go.Fw
/-- Is a byte in a set? -/
def inS (cut:ByteArray) (x:Int):Bool:=cut.data.toList.contains (UInt8.ofNat x.toNat)
def setC (cut:ByteArray):List Value:=(Lib.setCells cut.data.toList).toList
theorem Bu1 (cut:ByteArray) (x:Int) (h:0≤x∧x≤255):(setC cut)[x.toNat]? =some (.bool (inS cut x)):=by
  unfold setC inS
  have h1:=Lib.setCells_at cut.data.toList (UInt8.ofNat x.toNat)
  have h2:(UInt8.ofNat x.toNat).toNat=x.toNat:=by simp;omega
  rw[h2] at h1
  rw[Array.getElem?_toList]
  exact h1
theorem Be4 (cut:ByteArray):(setC cut).length=256:=by unfold setC;rw[Array.length_toList,Lib.setCells_size]
def tlN (p:Int→Bool) (l:List Int):List Int:=l.dropWhile p
def trN (p:Int→Bool) (l:List Int):List Int:=(l.reverse.dropWhile p).reverse
attribute [irreducible] setC
end Go.Sx
namespace Go.Proofs.YtmmnimagbnlcmaaGreatDoor
open Go Go.RowKit Go.Fw Go.Sx
set_option maxRecDepth 100000
set_option maxHeartbeats 1000000
attribute [local irreducible] SW SL SQ AtQ SV SC BB LD PK Yields SO SOT SOA SY
theorem At4 (G:Ctx) (H:List Ent) (b:Nat) {t:TypeId} (cut:ByteArray) [hb:HasBlk H b t (setC cut)] (x:Int) (hx:0≤x∧x≤255):SV Tryz.prog G 248 [.pointer (some ⟨b,0,none⟩),.int .u8 x] H (.bool (inS cut x)):=by
  have hv:=Bu1 cut x hx
  have hv:(setC cut)[0+x.toNat * 1]? =some (.bool (inS cut x)):=by rw[show 0+x.toNat * 1=x.toNat from by omega];exact hv
  refine P7 Tryz.func248 rfl rfl rfl rfl rfl ?_
  repeat' (first|(apply F3;first|(apply C8;refine A8 ?_)|(apply C9;refine D8 rfl rfl ?_)|(apply F4;refine F8 rfl rfl ?_;refine G6 hv ?_)|(apply D6;refine D9 rfl rfl ?_)|(apply M4;refine N9 (AB7 rfl rfl rfl (by omega) (by omega)) rfl ?_)|(apply K8;refine M8 (H8 rfl rfl) rfl ?_))|(apply D7)|(apply H7)|(apply A7)|(apply D5))
  refine M3 (by (exact .inr rfl)) rfl N7 ?_
  rfl
theorem Bo9 (G:Ctx) (H:List Ent) (b:Nat) {t:TypeId} (cut:ByteArray) [hb:HasBlk H b t (setC cut)] (L:List Int) (ho:∀x∈L,0≤x∧x≤255) (hz:L.length≤4000000):SV Tryz.prog G 201 [.string (strOfNums L),.pointer (some ⟨b,0,none⟩)] H (.string (strOfNums (tlN (inS cut) L))):=by
  have cH:=fun x hx=>At4 G H b cut x hx
  refine P7 Tryz.func201 rfl rfl rfl rfl rfl ?_
  repeat' (first|(apply F3;first|(apply C8;refine A8 ?_)|(apply D6;refine D9 rfl rfl ?_))|(apply D7)|(apply F6)|(apply A7)|(apply D5))
  refine R9 (α:=List Int) (fun l=>[(0,.string (strOfNums l)),(1,.pointer (some ⟨b,0,none⟩))]) (fun _=>H)
    (fun l=>tlN (inS cut) l=tlN (inS cut) L∧l.length≤4000000∧∀x∈l,0≤x∧x≤255) (fun l=>l.length) L ⟨rfl,hz,ho⟩ (by repeat (first|exact Le.nil _|refine Le.cons (by (rfl)) ?_)) I8 ?_
  rintro l ⟨hl,hlz,hlo⟩
  have hsz:(strOfNums l).size=l.length:=strOfNums_size l
  cases l with
  | nil=>
    simp only[List.length_nil] at hsz
    repeat' (first|(apply F3;first|(apply C8;refine A8 ?_)|(apply C9;refine D8 rfl rfl ?_)|(apply E5;refine F5 rfl rfl rfl ?_;refine F7 rfl ?_)|(apply D6;refine D9 rfl rfl ?_)|(apply J5;refine s_call (Q3 rfl rfl) rfl ?_))|(apply D7)|(apply H7)|(apply N8)|(apply A7)|(refine G5 rfl ?_;apply I5)|(apply D5)|(apply J7)|(apply J8))
    all_goals (skip)
    refine M3 (by (exact .inr rfl)) rfl N7 ?_
    rw[←hl]
    rfl
  | cons x r=>
    simp only[List.length_cons] at hsz hlz
    have hn:nums (strOfNums (x::r))=x::r:=Y8 hlo
    have hv:(nums (strOfNums (x::r))).getD (0:Int).toNat 0=x:=by rw[hn];rfl
    have hx:=hlo x List.mem_cons_self
    have hsl:(strOfNums (x::r)).extract (1:Int).toNat (((strOfNums (x::r)).size:Nat):Int).toNat=strOfNums r:=AO7 (by
      rw[AT3,hn,Y8 (fun y hy=>hlo y (List.mem_cons_of_mem _ hy)),hsz]
      exact List.take_of_length_le (by show r.length≤_;simp))
    have c1:=cH x hx
    have Hl:=Lib.hid hl
    have Hlo:=Lib.hid hlo
    clear hl hlo cH hn
    cases hp:inS cut x with
    | true=>
      rw[hp] at c1
      repeat' (first|(apply F3;first|(apply C8;refine A8 ?_)|(apply C9;refine D8 rfl rfl ?_)|(apply E5;refine F5 rfl rfl rfl ?_;refine F7 rfl ?_)|(apply D6;refine D9 rfl rfl ?_)|(apply Y0;refine Z8 (Z7 rfl rfl rfl) rfl ?_)|(apply U8;refine W9 (Z5 hv rfl rfl rfl (by omega) (by omega)) rfl ?_)|(apply H6;refine F9 rfl rfl rfl (c1) rfl rfl ?_)|(apply J5;refine s_call (Q3 rfl rfl) rfl ?_)|(apply o7;refine AM2 (AG0 hsl rfl rfl rfl rfl (by omega) (by omega) (by omega)) rfl ?_))|(apply D7)|(apply G9)|(apply F6)|(apply A7)|(refine G5 rfl ?_;first|(apply I5)|(apply E9<;>intro hq<;>(try (exfalso;omega))))|(apply D5)|(apply J2))
      all_goals (skip)
      refine J6 r ⟨⟨?_,by omega,fun y hy=>Hlo.out y (List.mem_cons_of_mem _ hy)⟩,by simp⟩ (by repeat (first|exact Le.nil _|refine Le.cons (by (rfl)) ?_)) I8
      rw[←Hl.out]
      unfold tlN
      rw[List.dropWhile_cons,hp]
      rfl
    | false=>
      rw[hp] at c1
      repeat' (first|(apply F3;first|(apply C8;refine A8 ?_)|(apply C9;refine D8 rfl rfl ?_)|(apply E5;refine F5 rfl rfl rfl ?_;refine F7 rfl ?_)|(apply D6;refine D9 rfl rfl ?_)|(apply Y0;refine Z8 (Z7 rfl rfl rfl) rfl ?_)|(apply U8;refine W9 (Z5 hv rfl rfl rfl (by omega) (by omega)) rfl ?_)|(apply H6;refine F9 rfl rfl rfl (c1) rfl rfl ?_)|(apply J5;refine s_call (Q3 rfl rfl) rfl ?_))|(apply D7)|(apply G9)|(apply H7)|(apply N8)|(apply F6)|(apply A7)|(refine G5 rfl ?_;first|(apply I7)|(apply E9<;>intro hq<;>(try (exfalso;omega))))|(apply D5)|(apply J7)|(apply J8)|refine AI5 rfl ?_)
      all_goals (skip)
      refine M3 (by (exact .inr rfl)) rfl N7 ?_
      rw[←Hl.out]
      unfold tlN
      rw[List.dropWhile_cons,hp]
      rfl
theorem Bk7 (G:Ctx) (H:List Ent) (b:Nat) {t:TypeId} (cut:ByteArray) [hb:HasBlk H b t (setC cut)] (L:List Int) (ho:∀x∈L,0≤x∧x≤255) (hz:L.length≤4000000):SV Tryz.prog G 202 [.string (strOfNums L),.pointer (some ⟨b,0,none⟩)] H (.string (strOfNums (trN (inS cut) L))):=by
  have cH:=fun x hx=>At4 G H b cut x hx
  refine P7 Tryz.func202 rfl rfl rfl rfl rfl ?_
  repeat' (first|(apply F3;first|(apply C8;refine A8 ?_)|(apply D6;refine D9 rfl rfl ?_))|(apply D7)|(apply F6)|(apply A7)|(apply D5))
  refine R9 (α:=List Int) (fun l=>[(0,.string (strOfNums l.reverse)),(1,.pointer (some ⟨b,0,none⟩))]) (fun _=>H)
    (fun l=>trN (inS cut) l.reverse=trN (inS cut) L∧l.length≤4000000∧∀x∈l,0≤x∧x≤255) (fun l=>l.length) L.reverse ⟨by rw[List.reverse_reverse],by rw[List.length_reverse];exact hz,fun x hx=>ho x (List.mem_reverse.1 hx)⟩ (by simp only[List.reverse_reverse];exact(by repeat (first|exact Le.nil _|refine Le.cons (by (rfl)) ?_))) I8 ?_
  rintro l ⟨hl,hlz,hlo⟩
  have hsz:(strOfNums l.reverse).size=l.length:=by rw[strOfNums_size,List.length_reverse]
  cases l with
  | nil=>
    simp only[List.length_nil] at hsz
    repeat' (first|(apply F3;first|(apply C8;refine A8 ?_)|(apply C9;refine D8 rfl rfl ?_)|(apply E5;refine F5 rfl rfl rfl ?_;refine F7 rfl ?_)|(apply D6;refine D9 rfl rfl ?_)|(apply J5;refine s_call (Q3 rfl rfl) rfl ?_))|(apply D7)|(apply H7)|(apply N8)|(apply A7)|(refine G5 rfl ?_;apply I5)|(apply D5)|(apply J7)|(apply J8))
    all_goals (skip)
    refine M3 (by (exact .inr rfl)) rfl N7 ?_
    rw[←hl]
    rfl
  | cons x r=>
    simp only[List.length_cons] at hsz hlz
    have hn:nums (strOfNums (x::r).reverse)=(x::r).reverse:=Y8 (fun y hy=>hlo y (List.mem_reverse.1 hy))
    have hv:(nums (strOfNums (x::r).reverse)).getD ((((strOfNums (x::r).reverse).size:Nat):Int)-1).toNat 0=x:=by
      rw[hn,hsz,show (((r.length+1:Nat):Int)-1).toNat=r.length from by omega,List.reverse_cons,List.getD_eq_getElem?_getD,List.getElem?_append_right (by rw[List.length_reverse];exact Nat.le_refl _),List.length_reverse,Nat.sub_self]
      rfl
    have hx:=hlo x List.mem_cons_self
    have hsl:(strOfNums (x::r).reverse).extract (0:Int).toNat ((((strOfNums (x::r).reverse).size:Nat):Int)-1).toNat=strOfNums r.reverse:=AO7 (by
      rw[AT3,hn,Y8 (fun y hy=>hlo y (List.mem_cons_of_mem _ (List.mem_reverse.1 hy))),hsz,show (((r.length+1:Nat):Int)-1).toNat-(0:Int).toNat=r.length from by omega,List.reverse_cons]
      show List.take r.length (r.reverse++[x])=_
      exact List.take_left' (List.length_reverse))
    have c1:=cH x hx
    have Hl:=Lib.hid hl
    have Hlo:=Lib.hid hlo
    clear hl hlo cH hn
    generalize hS:strOfNums (x::r).reverse=S at *
    cases hp:inS cut x with
    | true=>
      rw[hp] at c1
      repeat' (first|(apply F3;first|(apply C8;refine A8 ?_)|(apply C9;refine D8 rfl rfl ?_)|(apply E5;refine F5 rfl rfl rfl ?_;first|(apply y9;refine AA2 ⟨by omega,by omega⟩ ?_)|refine F7 rfl ?_)|(apply D6;refine D9 rfl rfl ?_)|(apply Y0;refine Z8 (Z7 rfl rfl rfl) rfl ?_)|(apply U8;refine W9 (Z5 hv rfl rfl rfl (by omega) (by omega)) rfl ?_)|(apply H6;refine F9 rfl rfl rfl (c1) rfl rfl ?_)|(apply J5;refine s_call (Q3 rfl rfl) rfl ?_)|(apply o7;refine AM2 (AG0 hsl rfl rfl rfl rfl (by omega) (by omega) (by omega)) rfl ?_))|(apply D7)|(apply G9)|(apply F6)|(apply A7)|(refine G5 rfl ?_;first|(apply I5)|(apply E9<;>intro hq<;>(try (exfalso;omega))))|(apply D5)|(apply J2))
      all_goals (skip)
      refine J6 r ⟨⟨?_,by omega,fun y hy=>Hlo.out y (List.mem_cons_of_mem _ hy)⟩,by simp⟩ (by repeat (first|exact Le.nil _|refine Le.cons (by (rfl)) ?_)) I8
      rw[←Hl.out]
      unfold trN
      rw[List.reverse_reverse,List.reverse_reverse,List.dropWhile_cons,hp]
      rfl
    | false=>
      rw[hp] at c1
      repeat' (first|(apply F3;first|(apply C8;refine A8 ?_)|(apply C9;refine D8 rfl rfl ?_)|(apply E5;refine F5 rfl rfl rfl ?_;first|(apply y9;refine AA2 ⟨by omega,by omega⟩ ?_)|refine F7 rfl ?_)|(apply D6;refine D9 rfl rfl ?_)|(apply Y0;refine Z8 (Z7 rfl rfl rfl) rfl ?_)|(apply U8;refine W9 (Z5 hv rfl rfl rfl (by omega) (by omega)) rfl ?_)|(apply H6;refine F9 rfl rfl rfl (c1) rfl rfl ?_)|(apply J5;refine s_call (Q3 rfl rfl) rfl ?_))|(apply D7)|(apply G9)|(apply H7)|(apply N8)|(apply F6)|(apply A7)|(refine G5 rfl ?_;first|(apply I7)|(apply E9<;>intro hq<;>(try (exfalso;omega))))|(apply D5)|(apply J7)|(apply J8)|refine AI5 rfl ?_)
      all_goals (skip)
      refine M3 (by (exact .inr rfl)) rfl N7 ?_
      rw[←Hl.out]
      unfold trN
      rw[List.reverse_reverse,List.dropWhile_cons,hp,←hS]
      rfl
theorem Bf2 (G:Ctx) (H:List Ent) (cut:ByteArray) (hz:cut.size≤1000) (ha:∀(j:Nat) b,cut.data.toList[j]? =some b→b.toNat<128):SV Tryz.prog G 200 [.string cut] H (.tuple #[.agg (setC cut).toArray,.bool true]):=by
  refine AA4 (j6 Tryz.func200 rfl rfl) fun w hw=>?_
  have h:=Tryz.strings_makeASCIISet (fun w=>AI9 _ _ (by kernel_rfl) w) cut w (by omega) ha
  have e:(setC cut).toArray=Lib.setCells cut.data.toList:=by unfold setC;exact Array.toArray_toList
  rw[e]
  exact h.mono fun e w' ⟨h1,h2⟩=>⟨h1,by rw[h2];exact(Below.refl _ w).alloc (Nat.le_refl _) _⟩
theorem Bg9 (cut:ByteArray):(setC cut).all (·.oneCell')=true:=by
  have:=Lib.setCells_one cut.data.toList
  unfold setC
  rw[List.all_eq_true]
  intro v hv
  rw[Array.all_eq_true_iff_forall_mem] at this
  exact this v (Array.mem_toList_iff.1 hv)
theorem B38 (cut:ByteArray):Nat.beq (setC cut).length 256=true:=by rw[Be4];rfl
instance zSet:ZeroT Tryz.prog 291 (List.replicate 256 (.bool false)):=⟨_,show still Tryz.prog (zeroValue 291)=some (.agg (List.toArray (List.replicate 256 (.bool false)))) by kernel_rfl,.agg _⟩
theorem BU7 (G:Ctx) (H:List Ent) (cut s:ByteArray) (h2:2≤cut.size) (hz:cut.size≤1000) (hs:s.size≤4000000) (ha:∀(j:Nat) b,cut.data.toList[j]? =some b→b.toNat<128):SV Tryz.prog G 145 [.string s,.string cut] H (.string (strOfNums (tlN (inS cut) (trN (inS cut) (nums s))))):=by
  have cM:=fun H=>Bf2 G H cut hz ha
  have hone:=Bg9 cut
  have hb:=B38 cut
  have hne:¬cut=⟨#[]⟩:=fun e=>by subst e;exact absurd h2 (by decide)
  have cR:=fun H b t (h:HasBlk H b t (setC cut))=>Bk7 G H b (hb:=h) cut (nums s) (AD5 s) (by rw[nums_length];exact hs)
  rw[Z6] at cR
  have hsub:=(List.dropWhile_sublist (inS cut) (l:=(nums s).reverse))
  have cL:=fun H b t (h:HasBlk H b t (setC cut))=>Bo9 G H b (hb:=h) cut (trN (inS cut) (nums s)) (fun x hx=>AD5 s x (List.mem_reverse.1 (hsub.subset (List.mem_reverse.1 hx)))) (by have:=hsub.length_le;rw[List.length_reverse,nums_length] at this;unfold trN;rw[List.length_reverse];omega)
  clear hsub
  by_cases hs0:s=⟨#[]⟩
  · subst hs0
    refine P7 Tryz.func145 rfl rfl rfl rfl rfl ?_
    repeat' (first|(apply F3;first|(apply C8;refine A8 ?_)|(apply C9;refine D8 rfl rfl ?_)|(apply E5;refine F5 rfl rfl rfl ?_;refine AH9 ?_)|(apply D6;refine D9 rfl rfl ?_)|(apply I6;refine I9 rfl rfl ?_;apply Q9;refine Q8 rfl ?_)|(apply I1;refine J9 rfl rfl rfl rfl ?_;apply X9))|(apply D7)|(apply H7)|(apply A7)|(refine G5 rfl ?_;apply I7)|(apply D5)|(apply J4))
    all_goals (refine M3 (by (exact .inr rfl)) rfl N7 ?_;rfl)
  · refine P7 Tryz.func145 rfl rfl rfl rfl rfl ?_
    repeat' (first|(apply F3;first|(apply C8;refine A8 ?_)|(apply C9;refine D8 rfl rfl ?_)|(apply E5;refine F5 rfl rfl rfl ?_;first|(refine AH9 ?_)|(refine F7 rfl ?_))|(apply D6;refine D9 rfl rfl ?_)|(apply I6;refine I9 rfl rfl ?_;first|(apply Q9;refine Q8 rfl ?_)|(apply O1;refine O3 rfl ?_))|(apply Q6;refine U2 (K7 rfl rfl rfl) rfl ?_)|(apply H6;first|refine F9 rfl rfl rfl (cM _) rfl rfl ?_ |refine F9 rfl rfl rfl (cL _ _ _ inferInstance) rfl rfl ?_ |refine F9 rfl rfl rfl (cR _ _ _ inferInstance) rfl rfl ?_)|(apply J5;refine s_call (Q3 rfl rfl) rfl ?_)|(apply H9;refine M6 rfl rfl rfl rfl hone hb rfl rfl ?_)|(apply L6;refine O0 rfl rfl rfl rfl (fun _=>?_))|(apply I1;refine J9 rfl rfl rfl rfl ?_;first|(apply I7)|(apply I5)|(apply X9)|(apply E9<;>intro hq<;>(try (exfalso;omega)))|(apply O8<;>intro hq<;>(try (exfalso;omega)))))|(apply D7)|(apply G9)|(apply H7)|(apply A7)|(refine G5 rfl ?_;first|(apply I7)|(apply I5)|(apply E9<;>intro hq<;>(try (exfalso;omega))))|(apply D5)|(apply J4))
    all_goals (first|(exact absurd (by assumption) hs0)|(exact absurd (by assumption) hne)|(refine M3 (by (exact .inr rfl)) rfl N7 ?_;rfl))
end Go.Proofs.YtmmnimagbnlcmaaGreatDoor
end
section
namespace Go.Fw
open Go Go.RowKit Go.Sx
def okA (x:Int):Bool:=decide ((48≤x∧x≤57)∨x=59)
def stepA (n d:Int):Int:=min (max n 0 * 10+(d-48)) 16383
def numA (l:List Int):Int:=l.foldl stepA (-1)
theorem Ar6 (l:List Int) (d:Int):numA (l++[d])=stepA (numA l) d:=by unfold numA;rw[List.foldl_append];rfl
theorem By1 (l:List Int) (h:∀x∈l,48≤x∧x≤57): -1≤numA l∧numA l≤16383:=by
  unfold numA
  have:∀(l:List Int) (n:Int),(∀x∈l,48≤x∧x≤57)→ -1≤n∧n≤16383→ -1≤l.foldl stepA n∧l.foldl stepA n≤16383:=by
    intro l
    induction l with
    | nil=>exact fun n _ h=>h
    | cons d l ih=>
      intro n hl hn
      have hd:=hl d List.mem_cons_self
      rw[List.foldl_cons]
      exact ih _ (fun x hx=>hl x (List.mem_cons_of_mem _ hx)) (by unfold stepA;omega)
  exact this l (-1) h (by omega)
/-- What is trimmed away whole. -/
theorem Bc5 (p:Int→Bool) (l:List Int):tlN p (trN p l)=[]↔l.all p=true:=by
  have hall:∀l:List Int,l.dropWhile p=[]↔l.all p=true:=fun l=>by
    induction l with
    | nil=>simp
    | cons x l ih=>rw[List.dropWhile_cons];split<;>simp_all
  unfold tlN trN
  rw[hall,List.all_reverse]
  constructor
  · intro h
    rw[←List.all_reverse,←hall]
    cases hd:l.reverse.dropWhile p with
    | nil=>rfl
    | cons x r=>
      exfalso
      have h9:=List.head?_dropWhile_not p l.reverse
      rw[hd] at h h9
      simp at h h9
      rw[h9] at h
      exact absurd h.1 (by decide)
  · intro h
    rw[(hall _).2 (by rw[List.all_reverse];exact h)]
    rfl
end Go.Fw
namespace Go.Proofs.YtmmnimagbnlcmaaGreatDoor
open Go Go.RowKit Go.Fw Go.Sx
def cutA:ByteArray:=⟨#[48,49,50,51,52,53,54,55,56,57,59]⟩
theorem Br8 (x:Int) (h:0≤x∧x≤255):inS cutA x=okA x:=by
  have key:∀n:Fin 256,inS cutA (n.val:Int)=okA (n.val:Int):=by decide+kernel
  have:=key ⟨x.toNat,by omega⟩
  rw[show ((x.toNat:Nat):Int)=x from by omega] at this
  exact this
def readA (s:ByteArray):List Int×Int:=if (nums s).all okA=true then (((AF5 59 s).take 32).map fun w=>numA (nums w),0) else ([],4)
/-- The pieces of a good text are digits. -/
theorem AZ4 (c:UInt8):∀(l acc w:List UInt8),w∈u7 c acc l→(∀x∈acc,x≠c)→∀x∈w,x≠c∧(x∈acc∨x∈l)
  | [],acc,w,h,ha,x,hx=>by simp only[u7,List.mem_singleton] at h;subst h;exact⟨ha x hx,.inl hx⟩
  | b::l,acc,w,h,ha,x,hx=>by
    unfold u7 at h
    split at h
    · rcases List.mem_cons.1 h with rfl|h
      · exact⟨ha x hx,.inl hx⟩
      · obtain⟨h1,h2⟩:=AZ4 c l [] w h (fun y hy=>nomatch hy) x hx
        exact⟨h1,.inr (List.mem_cons_of_mem _ (h2.resolve_left (fun h=>nomatch h)))⟩
    · rename_i hb
      obtain⟨h1,h2⟩:=AZ4 c l _ w h (fun y hy=>by
        rcases List.mem_append.1 hy with hy|hy
        · exact ha y hy
        · rw[List.mem_singleton] at hy;rw[hy];exact hb) x hx
      refine⟨h1,?_⟩
      rcases h2 with h2|h2
      · rcases List.mem_append.1 h2 with h2|h2
        · exact .inl h2
        · rw[List.mem_singleton] at h2;rw[h2];exact .inr List.mem_cons_self
      · exact .inr (List.mem_cons_of_mem _ h2)
theorem Ay1 (s:ByteArray) (h:(nums s).all okA=true) (w:ByteArray) (hw:w∈AF5 59 s):(∀x∈nums w,48≤x∧x≤57)∧w.size≤s.size:=by
  unfold AF5 at hw
  rw[List.mem_map] at hw
  obtain⟨v,hv,rfl⟩:=hw
  have hn:nums (baL v)=v.map fun x=>(x.toNat:Int):=by unfold nums baL;rw[List.toList_toArray]
  refine⟨fun x hx=>?_,?_⟩
  · rw[hn,List.mem_map] at hx
    obtain⟨u,hu,rfl⟩:=hx
    obtain⟨h1,h2⟩:=AZ4 59 _ _ v hv (fun y hy=>nomatch hy) u hu
    have h3:=h2.resolve_left (fun h=>nomatch h)
    rw[List.all_eq_true] at h
    have h4:=h (u.toNat:Int) (by unfold nums;exact List.mem_map.2 ⟨u,h3,rfl⟩)
    unfold okA at h4
    rw[decide_eq_true_eq] at h4
    have h5:¬u.toNat=59:=fun e=>h1 (UInt8.toNat_inj.1 e)
    omega
  · have:=Ab4 59 _ _ v hv
    simp at this
    exact this
end Go.Proofs.YtmmnimagbnlcmaaGreatDoor
end
namespace Go.Proofs.YtmmnimagbnlcmaaGreatDoor
open Go Go.RowKit Go.Fw Go.Sx
set_option maxRecDepth 100000
section
set_option maxHeartbeats 1000000
def argS (n:Int):ByteArray:=if n<0 then ⟨#[]⟩ else numB n.toNat
def semi:ByteArray:=⟨#[59]⟩
/-- The numbers, a mark between two. -/
def textA (l:List Int):ByteArray:=joinS (l.map argS) semi
def badA (n:Int):Bool:=decide (n< -1)||decide (n>16383)
def l8 (l:List Int):ByteArray×Int:=if l=[]∨l.any badA=true then (⟨#[]⟩,1) else if 32<l.length then (⟨#[]⟩,2) else (textA l,0)
theorem BS2 (n:Int) (h:n≤16383):(argS n).size≤5:=by
  unfold argS
  split
  · exact Nat.zero_le _
  · exact Ad7 4 n.toNat (by omega)
theorem BK2 (L:List ByteArray) (sep:ByteArray):(joinS L sep).size≤(L.map (·.size)).sum+L.length * sep.size:=by
  have h:=A64 L sep
  have e:(joinS L sep).size=(Lib.join (L.map (·.data.toList)) sep.data.toList).length:=List.size_toArray
  omega
theorem BT2 {L:List ByteArray} {k:Nat} (h:∀x∈L,x.size≤k):(L.map (·.size)).sum≤L.length * k:=by
  induction L with
  | nil=>simp
  | cons x L ih=>
    have h1:=h x List.mem_cons_self
    have h2:=ih (fun y hy=>h y (List.mem_cons_of_mem _ hy))
    rw[List.map_cons,List.sum_cons,List.length_cons,Nat.add_mul]
    omega
attribute [irreducible] argS
attribute [local irreducible] SW SL SQ AtQ SV SC BB LD PK Yields SO SOT SOA SY
def AP2 (G:Ctx) (H:List Ent):Prop:=∀w,Holds G H w→Lib.TabIs Tryz.prog w "internal/strconv.uint64pow10" .u64 Lib.pow10Tab
theorem Bh2 (G:Ctx) (H:List Ent) (hT:AP2 G H) (n:Nat) (h:n≤9223372036854775807):SV Tryz.prog G 50 [.int .i64 n] H (.string (numB n)):=
  AA4 (j6 Tryz.func50 rfl rfl) fun w hw=>(Tryz.strconv_Itoa (n:Int) (by omega) (by omega) w (hT w hw)).mono fun e w' ⟨he,k,os,hw'⟩=>by
    refine⟨?_,by rw[hw'];exact Lib.below_grow _ w (Nat.le_refl _) k os⟩
    rw[he]
    have:Lib.itoa (n:Int)=Lib.decDigits n:=if_neg (by omega)
    rw[this]
    rfl
theorem BJ4 (G:Ctx) (H:List Ent) (n:Int):SV Tryz.prog G 175 [.int .i64 n] H (.bool (badA n)):=by
  unfold badA
  refine M5 Tryz.func175 rfl rfl rfl rfl rfl ?_
  repeat' (first|(apply F3;first|(apply C8;refine A8 ?_)|(apply C9;refine D8 rfl rfl ?_)|(apply E5;refine F5 rfl rfl rfl ?_;refine F7 rfl ?_)|(apply D6;refine D9 rfl rfl ?_)|(apply I6;refine I9 rfl rfl ?_;first|(apply Q9;refine Q8 rfl ?_)|(apply O1;refine O3 rfl ?_))|(apply I1;refine J9 rfl rfl rfl rfl ?_;first|(apply I7)|(apply X9)|(apply O8<;>intro hq<;>(try (exfalso;omega)))))|(apply D7)|(apply H7)|(apply A7)|(apply D5))
  · refine M3 (by (exact .inr rfl)) rfl N7 ?_
    rw[decide_eq_false hq,Bool.false_or]
    rfl
  · refine M3 (by (exact .inr rfl)) rfl N7 ?_
    rw[decide_eq_true hq,Bool.true_or]
    rfl
theorem A15 (G:Ctx) (H:List Ent) (hT:∀H,AP2 G H) (L:List Int) (a:Option Addr) (n c:Nat) [h1:RdC G H a (ints L)] (hn:n=L.length) (hmn:n≤2000000):SV Tryz.prog G 119 [.slice a n c] H (.tuple #[.string (l8 L).1,.int .i64 (l8 L).2]):=by
  have hlx:(ints L).length=n * 1:=by rw[hn];simp [ints]
  have cF:=fun (H:List Ent) [RdC G H a (ints L)]=>AR7 G H 175 badA L a n c rfl hn (by unfold maxLen;omega) (fun H x _=>BJ4 G H x)
  unfold l8
  by_cases h0:L=[]
  · rw[if_pos (.inl h0)]
    have hz:n=0:=by rw[hn,h0];rfl
    refine M5 Tryz.func119 rfl rfl rfl rfl rfl ?_
    repeat' (first|(apply F3;first|(apply C8;refine A8 ?_)|(apply C9;refine D8 rfl rfl ?_)|(apply E5;refine F5 rfl rfl rfl ?_;refine F7 rfl ?_)|(apply D6;refine D9 rfl rfl ?_)|(apply I6;refine I9 rfl rfl ?_;apply Q9;refine Q8 rfl ?_)|(apply J5;refine s_call (Q5 rfl rfl) rfl ?_)|(apply I1;refine J9 rfl rfl rfl rfl ?_;first|(apply X9)|(apply O8<;>intro hq<;>(try (exfalso;omega)))))|(apply D7)|(apply H7)|(apply A7)|(refine G5 rfl ?_;apply I7)|(apply D5)|(apply J4))
    all_goals (refine M3 (by (exact .inr rfl)) rfl N7 ?_;rfl)
  have hz:0<n:=by rw[hn];exact List.length_pos_iff.2 h0
  by_cases hb:L.any badA=true
  · rw[if_pos (.inr hb)]
    rw[hb] at cF
    refine M5 Tryz.func119 rfl rfl rfl rfl rfl ?_
    repeat' (first|(apply F3;first|(apply C8;refine A8 ?_)|(apply C9;refine D8 rfl rfl ?_)|(apply E5;refine F5 rfl rfl rfl ?_;refine F7 rfl ?_)|(apply D6;refine D9 rfl rfl ?_)|(apply I6;refine I9 rfl rfl ?_;apply O1;refine O3 rfl ?_)|(apply H6;refine F9 rfl rfl rfl (cF _) rfl rfl ?_)|(apply J5;refine s_call (Q5 rfl rfl) rfl ?_)|(apply I1;refine J9 rfl rfl rfl rfl ?_;first|(apply I7)|(apply O8<;>intro hq<;>(try (exfalso;omega)))))|(apply D7)|(apply H7)|(apply A7)|(refine G5 rfl ?_;apply I7)|(apply D5)|(apply J4))
    all_goals (refine M3 (by (exact .inr rfl)) rfl N7 ?_;rfl)
  rw[if_neg (by simp [h0,hb])]
  rw[Bool.not_eq_true] at hb
  rw[hb] at cF
  have hgood:∀x∈L,-1≤x∧x≤16383:=fun x hx=>by
    rw[List.any_eq_false] at hb
    have:=hb x hx
    unfold badA at this
    simp at this
    omega
  by_cases h32:32<L.length
  · rw[if_pos h32]
    refine M5 Tryz.func119 rfl rfl rfl rfl rfl ?_
    repeat' (first|(apply F3;first|(apply C8;refine A8 ?_)|(apply C9;refine D8 rfl rfl ?_)|(apply E5;refine F5 rfl rfl rfl ?_;refine F7 rfl ?_)|(apply D6;refine D9 rfl rfl ?_)|(apply I6;refine I9 rfl rfl ?_;apply O1;refine O3 rfl ?_)|(apply H6;refine F9 rfl rfl rfl (cF _) rfl rfl ?_)|(apply J5;refine s_call (Q5 rfl rfl) rfl ?_)|(apply I1;refine J9 rfl rfl rfl rfl ?_;first|(apply I7)|(apply O8<;>intro hq<;>(try (exfalso;omega)))))|(apply D7)|(apply G9)|(apply H7)|(apply A7)|(refine G5 rfl ?_;first|(apply I5)|(apply E9<;>intro hq<;>(try (exfalso;omega))))|(apply D5)|(apply J4))
    all_goals (refine M3 (by (exact .inr rfl)) rfl N7 ?_;rfl)
  · rw[if_neg h32]
    refine M5 Tryz.func119 rfl rfl rfl rfl rfl ?_
    repeat' (first|(apply F3;first|(apply C8;refine A8 ?_)|(apply C9;refine D8 rfl rfl ?_)|(apply E5;refine F5 rfl rfl rfl ?_;refine F7 rfl ?_)|(apply D6;refine D9 rfl rfl ?_)|(apply I6;refine I9 rfl rfl ?_;apply O1;refine O3 rfl ?_)|(apply H6;refine F9 rfl rfl rfl (cF _) rfl rfl ?_)|(apply J5;refine s_call (Q5 rfl rfl) rfl ?_)|(apply I1;refine J9 rfl rfl rfl rfl ?_;first|(apply I7)|(apply O8<;>intro hq<;>(try (exfalso;omega)))))|(apply D7)|(apply G9)|(apply F6)|(apply A7)|(refine G5 rfl ?_;first|(apply I5)|(apply E9<;>intro hq<;>(try (exfalso;omega))))|(apply D5))
    all_goals (skip)
    have cI:=fun H (k:Nat) (h:k≤9223372036854775807)=>Bh2 G H (hT H) k h
    have hPl:=fun i=>(show ((L.take i).map argS).length=min i L.length by rw[List.length_map,List.length_take])
    have Hg:=Lib.hid hgood
    have hjs:(L.map argS).length=n:=by rw[List.length_map,hn]
    have hsum:((L.map argS).map (·.size)).sum≤(L.map argS).length * 5:=BT2 (fun x hx=>by
      rw[List.mem_map] at hx
      obtain⟨z,hzm,rfl⟩:=hx
      exact BS2 z (hgood z hzm).2)
    have hnx:∀i x,L[i]? =some x→(L.take (i+1)).map argS=(L.take i).map argS++[argS x]:=fun i x h=>by
      obtain⟨h1,h2⟩:=List.getElem?_eq_some_iff.1 h
      rw[List.take_succ_eq_append_getElem h1,List.map_append,h2];rfl
    have Hnx:=Lib.hid hnx
    clear hnx hgood cF hT hb
    refine R9 (α:=Nat×Option Addr×Nat) (fun g=>[(4,.slice g.2.1 ((L.take g.1).map argS).length g.2.2),(17,.slice a n c),(18,.int .i64 n),(19,.int .i64 g.1)]) (fun g=> .own 9 1 g.2.1 ((L.take g.1).map argS).length g.2.2 (strs ((L.take g.1).map argS))::H)
      (fun g=>g.1≤n) (fun g=>n-g.1) (0,none,0) (Nat.zero_le _) (by repeat (first|exact Le.nil _|refine Le.cons (by (rfl)) ?_)) (fun _ hw=>(hw.nilrow _ _).subs (by repeat (first|refine Subs.cons (by repeat constructor) ?_ |exact Subs.sub N7))) ?_
    rintro ⟨i,a1,c1⟩ hi
    dsimp only at hi ⊢
    by_cases hlt:i<n
    · obtain⟨x,hx⟩:=AA3 (X:=L) (k:=i) (by omega)
      have hxi:(ints L)[(i:Int).toNat * 1]? =some (.int .i64 x):=by simp [ints,hx]
      have hxg:=Hg.out x (List.mem_of_getElem? hx)
      have hn1:=Hnx.out i x hx
      have hl1:=hPl i
      have hl2:((L.take (i+1)).map argS).length=((L.take i).map argS).length+1:=by rw[hn1];simp
      have hs2:strs ((L.take (i+1)).map argS)=strs ((L.take i).map argS)++[.string (argS x)]:=by rw[hn1];simp [strs]
      have Hl2:=Lib.hid hl2
      have Hs2:=Lib.hid hs2
      clear hx hn1 hl2 hs2
      generalize ((L.take i).map argS)=D at *
      by_cases hxn:x<0
      · have hax:argS x=⟨#[]⟩:=by unfold argS;rw[if_pos hxn]
        rw[hax] at Hs2
        repeat' (first|(apply F3;first|(apply C8;refine A8 ?_)|(apply C9;refine D8 rfl rfl ?_)|(apply E5;refine F5 rfl rfl rfl ?_;first|(apply M0;refine L9 ⟨by omega,by omega⟩ ?_)|refine F7 rfl ?_)|(apply F4;refine F8 rfl rfl ?_;refine X5 hxi ?_)|(apply D6;refine D9 rfl rfl ?_)|(apply M4;refine N9 (K6 rfl rfl rfl hlx (by omega) (by omega)) rfl ?_)|(apply J5;refine R6 rfl rfl rfl rfl (by (rfl)) (by (rfl)) (by omega) rfl rfl (fun _ _=>?_))|(apply V8;refine M7 rfl rfl rfl rfl rfl rfl rfl rfl rfl rfl (fun _=>?_)))|(apply D7)|(apply G9)|(apply F6)|(apply A7)|(refine G5 rfl ?_;apply E9<;>intro hq<;>(try (exfalso;omega)))|(apply D5)|(apply J2))
        all_goals (skip)
        rename_i bx ax cx
        refine J6 (i+1,ax,cx) ⟨by dsimp only;omega,by dsimp only;omega⟩ ?_ ?_
        · dsimp only;rw[Hl2.out];exact(by repeat (first|exact Le.nil _|refine Le.cons (by (rfl)) ?_))
        · dsimp only;rw[Hl2.out,Hs2.out];exact I8
      · obtain⟨k,rfl⟩:∃k:Nat,x=(k:Int):=⟨x.toNat,by omega⟩
        have hax:argS (k:Int)=numB k:=by unfold argS;rw[if_neg hxn];rfl
        rw[hax] at Hs2
        have cI1:=fun H=>cI H k (by omega)
        clear cI
        repeat' (first|(apply F3;first|(apply C8;refine A8 ?_)|(apply C9;refine D8 rfl rfl ?_)|(apply E5;refine F5 rfl rfl rfl ?_;first|(apply M0;refine L9 ⟨by omega,by omega⟩ ?_)|refine F7 rfl ?_)|(apply F4;refine F8 rfl rfl ?_;refine X5 hxi ?_)|(apply D6;refine D9 rfl rfl ?_)|(apply M4;refine N9 (K6 rfl rfl rfl hlx (by omega) (by omega)) rfl ?_)|(apply H6;refine F9 rfl rfl rfl (cI1 _) rfl rfl ?_)|(apply J5;refine R6 rfl rfl rfl rfl (by (rfl)) (by (rfl)) (by omega) rfl rfl (fun _ _=>?_))|(apply V8;refine M7 rfl rfl rfl rfl rfl rfl rfl rfl rfl rfl (fun _=>?_)))|(apply D7)|(apply G9)|(apply F6)|(apply A7)|(refine G5 rfl ?_;first|(apply I5)|(apply E9<;>intro hq<;>(try (exfalso;omega))))|(apply D5)|(apply J2))
        all_goals (skip)
        rename_i bx ax cx
        refine J6 (i+1,ax,cx) ⟨by dsimp only;omega,by dsimp only;omega⟩ ?_ ?_
        · dsimp only;rw[Hl2.out];exact(by repeat (first|exact Le.nil _|refine Le.cons (by (rfl)) ?_))
        · dsimp only;rw[Hl2.out,Hs2.out];exact I8
    · obtain rfl:n=i:=by omega
      rw[show L.take n=L from by rw[hn,List.take_length]]
      unfold textA
      refine AW8 fun w hw=>?_
      obtain⟨b,rfl,hcc⟩:=A22 hw List.mem_cons_self (by omega)
      have cJ:=fun H (h:RdC G H (some ⟨b,0,none⟩) (strs (L.map argS)))=>Bj9 G H (L.map argS) semi (some ⟨b,0,none⟩) (L.map argS).length c1 (h1:=h) rfl rfl (by omega) hcc (by have:semi.size=1:=rfl;rw[this];omega) (by omega)
      repeat' (first|(apply F3;first|(apply C8;refine A8 ?_)|(apply C9;refine D8 rfl rfl ?_)|(apply E5;refine F5 rfl rfl rfl ?_;refine F7 rfl ?_)|(apply D6;refine D9 rfl rfl ?_)|(apply H6;refine F9 rfl rfl rfl (cJ _ inferInstance) rfl rfl ?_))|(apply D7)|(apply H7)|(apply N8)|(apply A7)|(refine G5 rfl ?_;apply E9<;>intro hq<;>(try (exfalso;omega)))|(apply D5)|(apply J7)|(apply J8))
      all_goals (skip)
      refine M3 (by (exact .inr rfl)) rfl N7 ?_
      rfl
end
section
set_option maxRecDepth 1000000
set_option maxHeartbeats 4000000
theorem BU9 {P:Program} {W:World} {name:String} {k:IntKind} {zs:List Int} {g:Nat} {t e:TypeId} {n:Nat} (hg:P.globalNamed name=some g) (hty:(P.globals[g]?).map (·.type)=some t) (ht:P.underlying t=some (.array n e)) (he:P.underlying e=some (.int k)) (hce:P.cellsOf e=1) (hct:P.cellsOf t=n)
    (h:Lib.VarReads P W name (Lib.tabData k zs)):Lib.TabIs P W name k zs:=by
  obtain⟨g',t',cs,fuel,p,hg',ht',hvar,hd⟩:=h
  obtain rfl:=Option.some.inj (hg.symm.trans hg')
  obtain rfl:=Option.some.inj (hty.symm.trans ht')
  unfold Lib.TabIs
  rw[hvar,←Lib.cells_of_tab ht he hce hct hd]
theorem BJ2:(Rows.laid_internal_strconv_uint64pow10:DataW Unit)=Lib.tabData .u64 Lib.pow10Tab:=by kernel_rfl
theorem BH4 {laid:List (String×DataW Unit)} {W:World} (hL:laidMet Tryz.prog laid W) (h1:("internal/strconv.uint64pow10",Rows.laid_internal_strconv_uint64pow10)∈laid):∀H,AP2 ⟨W.heap.size,W⟩ H:=fun H w hw=>
  Lib.tabBelow_of_tabIs (BU9 (g:=3) (t:=327) (e:=32) (n:=20) (by kernel_rfl) (by kernel_rfl) Tryz.underlying327 Tryz.underlying32 (by kernel_rfl) (by kernel_rfl) (BJ2▸Lib.laidMet.reads hL h1)) w hw.below
end
end Go.Proofs.YtmmnimagbnlcmaaGreatDoor
section
namespace Go.Fw
open Go Go.RowKit Go.Sx
end Go.Fw
namespace Go.Proofs.YtmmnimagbnlcmaaGreatDoor
open Go Go.RowKit Go.Fw Go.Sx
/-- The four words as cells. -/
def AL0 (f:Nat→Nat):List Value:=[.int .u64 (f 0),.int .u64 (f 1),.int .u64 (f 2),.int .u64 (f 3)]
def Wf (f:Nat→Nat):Prop:=∀j,j<4→f j<18446744073709551616
theorem BY5 (f:Nat→Nat) (j:Nat) (h:j<4):(AL0 f)[j]? =some (.int .u64 (f j)):=by
  match j,h with
  | 0,_=>rfl
  | 1,_=>rfl
  | 2,_=>rfl
  | 3,_=>rfl
def setF (f:Nat→Nat) (c:Nat):Nat→Nat:=fun j=>if j=c / 64 then f j|||2 ^ (c % 64) else f j
theorem BL1 (f g:Nat→Nat) (j:Nat) (h:j<4) (hg:∀i,i≠j→g i=f i):(AL0 f).set j (.int .u64 (g j))=AL0 g:=by
  match j,h with
  | 0,_=>simp [AL0,hg 1 (by omega),hg 2 (by omega),hg 3 (by omega)]
  | 1,_=>simp [AL0,hg 0 (by omega),hg 2 (by omega),hg 3 (by omega)]
  | 2,_=>simp [AL0,hg 0 (by omega),hg 1 (by omega),hg 3 (by omega)]
  | 3,_=>simp [AL0,hg 0 (by omega),hg 1 (by omega),hg 2 (by omega)]
theorem B76 (k:Nat) (h:k<64):pw k=((2 ^ k:Nat):Int)∧2 ^ k<18446744073709551616:=⟨by rw[Aw6];simp,Nat.pow_lt_pow_right (a:=2) (by omega) h⟩
theorem A08 (f:Nat→Nat) (c:Nat) (hf:Wf f) (hc:c<256):ibits .or .u64 (f (c / 64)) (pw (c % 64))=setF f c (c / 64)∧Wf (setF f c):=by
  obtain⟨h1,h2⟩:=B76 (c % 64) (by omega)
  refine⟨?_,fun j hj=>?_⟩
  · rw[A45,h1,u64_or_nat _ _ (hf _ (by omega)) h2]
    unfold setF;rw[if_pos rfl]
  · unfold setF
    split
    · exact Nat.or_lt_two_pow (n:=64) (hf j hj) h2
    · exact hf j hj
end Go.Proofs.YtmmnimagbnlcmaaGreatDoor
end
namespace Go.Proofs.YtmmnimagbnlcmaaGreatDoor
open Go Go.RowKit Go.Fw Go.Sx
set_option maxRecDepth 100000
section
set_option maxHeartbeats 1000000
attribute [local irreducible] SW SL SQ AtQ SV SC BB LD PK Yields SO SOT SOA SY
/-- The usual columns, set one by one. -/
def usF:Nat→(Nat→Nat)
  | 0=>fun _=>0
  | k+1=>setF (usF k) (8 * (k+1))
theorem BS4:∀k,k≤31→Wf (usF k)
  | 0,_=>fun _ _=>by show 0<_;omega
  | k+1,h=>(A08 (usF k) (8 * (k+1)) (BS4 k (by omega)) (by omega)).2
theorem Bc6 (G:Ctx) (H:List Ent):SV Tryz.prog G 86 [] H (.agg (AL0 (usF 31)).toArray):=by
  refine At5 Tryz.func86 rfl rfl rfl rfl rfl ?_
  repeat' (first|(apply F3;first|(apply C8;refine A8 ?_)|(apply D6;refine D9 rfl rfl ?_)|(apply L6;refine O0 rfl rfl rfl rfl (fun _=>?_)))|(apply D7)|(apply F6)|((fail_if_success (refine K3 (id:=3) ?_));apply A7)|(apply D5))
  rename_i b b1
  refine R9 (α:=Nat) (fun k=>[(0,.pointer (some ⟨b,0,none⟩)),(1,.pointer (some ⟨b1,0,none⟩)),(2,.int .i64 (8 * ((k:Int)+1)))]) (fun k=> .blk b1 35 (AL0 (usF k)):: .blk b 35 [.int .u64 0,.int .u64 0,.int .u64 0,.int .u64 0]::H)
    (fun k=>k≤31) (fun k=>31-k) 0 (by decide) (by repeat (first|exact Le.nil _|refine Le.cons (by (rfl)) ?_)) I8 ?_
  intro k hk
  by_cases hlt:k<31
  · obtain⟨hs1,-⟩:=A08 (usF k) (8 * (k+1)) (BS4 k hk) (by omega)
    have hx:=BY5 (usF k) (8 * (k+1) / 64) (by omega)
    have hset1:=BL1 (usF k) (setF (usF k) (8 * (k+1))) (8 * (k+1) / 64) (by omega) (fun i hi=>if_neg hi)
    have hi0:0+((8 * ((k:Int)+1)) / 64).toNat * 1=8 * (k+1) / 64:=by omega
    rw[←hi0] at hx hset1 hs1
    have hD:pw ((8 * ((k:Int)+1)) % 64).toNat=pw (8 * (k+1) % 64):=by rw[show ((8 * ((k:Int)+1)) % 64).toNat=8 * (k+1) % 64 from by omega]
    have hl1:0+((8 * ((k:Int)+1)) / 64).toNat * 1<(AL0 (usF k)).length:=by show _<4;omega
    generalize pw (8 * (k+1) % 64)=D at *
    have hF:setF (usF k) (8 * (k+1))=usF (k+1):=rfl
    rw[hF] at hset1 hs1
    have hnx:8 * ((k:Int)+1)+8=8 * (((k+1:Nat):Int)+1):=by omega
    clear hi0 hF
    repeat' (first|(apply F3;first|(apply C8;refine A8 ?_)|(apply C9;refine D8 rfl rfl ?_)|(apply E5;refine F5 rfl rfl rfl ?_;first|(apply M0;refine L9 ⟨by omega,by omega⟩ ?_)|refine F7 rfl ?_)|(apply F4;refine F8 rfl rfl ?_;refine G6 hx ?_)|(apply D6;refine D9 rfl rfl ?_)|(apply H9;refine AM5 rfl rfl rfl rfl rfl hset1 hl1 rfl ?_))|(apply U4;refine R5 (k:=0) I8 ?_)|(apply V6;first|(refine O9 rfl ?_)|(refine P8 rfl rfl rfl rfl (by kernel_rfl) (by decide+kernel) (by decide+kernel) ?_;first|(apply U5;refine I4 (V4 rfl rfl) ?_)|(apply Ae4;refine Ad4 rfl rfl ?_;first|(refine Bm9 hD (by omega) (by omega) ?_)|(refine AT0 rfl hs1 ?_)|(first|(apply B54;refine B69 ⟨by omega,by omega⟩ (by omega) (by omega) ?_)|(apply CC5;refine B50 (by omega) (by omega) ?_)))|(apply Q0;refine I4 (E8 rfl rfl) ?_)|(apply BQ3;refine I4 (AB7 rfl rfl rfl (by omega) (by omega)) ?_))|(refine P9 rfl ?_)|(refine R4 (by decide+kernel) ?_)|(refine S9 (by kernel_rfl) ?_))|(apply X4;first|(refine T9 rfl)|(refine U7 (by decide+kernel) ?_)|(refine U0 rfl ?_ ?_))|(apply D7)|(apply G9)|(apply F6)|(apply A7)|(refine G5 rfl ?_;apply E9<;>intro hq<;>(try (exfalso;omega)))|(apply D5)|(apply J2)|(refine K3 (id:=5) ?_;refine V3 (H) I8 ?_))
    refine J6 (k+1) ⟨by omega,by omega⟩ ?_ I8
    rw[←hnx];exact(by repeat (first|exact Le.nil _|refine Le.cons (by (rfl)) ?_))
  · obtain rfl:k=31:=by omega
    repeat' (first|(apply F3;first|(apply C8;refine A8 ?_)|(apply C9;refine D8 rfl rfl ?_)|(apply E5;refine F5 rfl rfl rfl ?_;refine F7 rfl ?_)|(apply F4;refine F8 rfl rfl ?_;refine K5 rfl ?_)|(apply H9;refine M6 rfl rfl rfl rfl rfl rfl rfl rfl ?_))|(apply D7)|(apply H7)|(apply N8)|(apply A7)|(refine G5 rfl ?_;apply I5)|(apply D5)|(apply J7)|(apply J8))
    refine d9 (H) (by (exact .inr rfl)) rfl (by (rfl)) rfl I8 ?_
    exact⟨rfl,rfl⟩
end
section
open Go.RowKit Go.Fw
def inTab (n:Int) (l:List (Int×Int)):Bool:=l.any fun x=>decide (x.1≤n∧n≤x.2)
def inNo (n:Int) (l:List (Int×Int)) (k:Nat):Prop:=∀j,j<k→¬((l.getD j (0,0)).1≤n∧n≤(l.getD j (0,0)).2)
theorem BS9 (n:Int) (l:List (Int×Int)) (k:Nat) (hk:k<l.length) (h:(l.getD k (0,0)).1≤n∧n≤(l.getD k (0,0)).2):inTab n l=true:=by
  unfold inTab
  rw[List.any_eq_true]
  simp only[List.getD,List.getElem?_eq_getElem hk,Option.getD_some] at h
  exact⟨l[k],List.getElem_mem hk,by simpa using h⟩
theorem Be3 (n:Int) (l:List (Int×Int)) (h:inNo n l l.length):inTab n l=false:=by
  unfold inTab
  rw[List.any_eq_false]
  intro x hx
  obtain⟨j,hj,rfl⟩:=List.getElem_of_mem hx
  have:=h j hj
  simp only[List.getD,List.getElem?_eq_getElem hj,Option.getD_some] at this
  simpa using this
set_option maxRecDepth 100000 in
set_option maxHeartbeats 400000 in
theorem BV2 (n:Int) (l:List (Int×Int)) (a:Option Addr) (m c:Nat) (w:World) (hm:m=l.length) (hl:m≤1000) (h:At w a (AP4 l)):
    Calls Tryz.prog 172 #[.int .i64 n,.slice a m c] w fun e w'=>e= .returned (.bool (inTab n l))∧Below w.heap.size w w':=by
  have Hm:=Lib.hid hm
  clear hm
  go_enter Tryz.func172,Tryz.ntmps172
  go_wp2
  go_loopw [9] (fun i wr=>∃k:Nat,k≤m∧i= .int .i64 k∧inNo n l k∧Below w.heap.size w wr) (fun i _=>m-(intOf i).toNat)
  case atStart=>exact⟨0,Nat.zero_le _,rfl,fun j hj=>by omega,Below.refl _ _⟩
  case round=>
    obtain⟨k,hk,rfl,hno,hbl⟩:=hrel
    by_cases hlt:k<m
    · obtain⟨b,o,ha,hb,hc⟩:=h.pair (k:=k) (by rw[←Hm.out];exact hlt)
      rw[ha]
      have hcc:=hc k (by rw[←Hm.out];exact hlt)
      have hx:=(hbl.cell (p:=⟨b,o+k * 2,none⟩) hb).trans hcc.1
      have hy:=(hbl.cell (p:=⟨b,o+k * 2+1,none⟩) hb).trans hcc.2
      clear hc ha hcc
      obtain⟨x,hX⟩:∃x,x=(l.getD k (0,0)).1:=⟨_,rfl⟩
      obtain⟨y,hY⟩:∃y,y=(l.getD k (0,0)).2:=⟨_,rfl⟩
      rw[←hX] at hx
      rw[←hY] at hy
      have HX:=Lib.hid hX
      have HY:=Lib.hid hY
      clear hX hY
      by_cases h1:x≤n∧n≤y
      · have Hfin:=Lib.hid (BS9 n l k (by rw[←Hm.out];exact hlt) (by rw[←HX.out,←HY.out];exact h1))
        obtain⟨h1,h2⟩:=h1
        go_wp2
        go_ret
        exact⟨AT6 Hfin.out.symm,hbl.alloc hbl.size _⟩
      · have hno':inNo n l (k+1):=fun j hj=>by
          rcases Nat.lt_or_ge j k with h|h
          · exact hno j h
          · obtain rfl:j=k:=by omega
            rw[←HX.out,←HY.out];exact h1
        by_cases h2:x≤n
        all_goals
          go_wp2
          all_goals first
            | (exfalso;omega)
            | (go_roundw
               case rel=>exact⟨k+1,by omega,by go_num,hno',hbl.alloc hbl.size _⟩
               case measure=>simp [intOf];omega)
    · obtain rfl:k=m:=by omega
      have Hfin:=Lib.hid (Be3 n l (by rw[←Hm.out];exact hno))
      go_wp2
      go_ret
      exact⟨AT6 Hfin.out.symm,hbl⟩
def K4:List (Int×Int):=[(0,31),(127,159),(768,879),(8203,8207),(55296,57343),(65024,65039)]
def O7:List (Int×Int):=[(4352,4447),(11904,12350),(12353,19903),(19968,42191),(44032,55203),(63744,64255),(65072,65135),(65280,65376),(65504,65510),(127744,128591),(129280,129535),(131072,262141)]
def X8:List (Int×Int):=[(0,0),(32,1),(127,0),(160,1),(768,0),(880,1),(4352,2),(4448,1),(8203,0),(8208,1),(11904,2),(12351,1),(12353,2),(19904,1),(19968,2),(42192,1),(44032,2),(55204,1),(63744,2),(64256,1),(65024,0),(65040,1),(65072,2),(65136,1),(65280,2),(65377,1),(65504,2),(65511,1),(127744,2),(128592,1),(129280,2),(129536,1),(131072,2),(262142,1)]
def O4 (n:Int):Bool:=decide ((0≤n∧n≤55295)∨(57344≤n∧n≤1114111))
def R8 (n:Int):Int:=if n<0∨1114111<n∨inTab n K4=true then 0 else if inTab n O7=true then 2 else 1
def refTo (n:Int) (k:Nat):Int:=(X8.take k).foldl (fun w x=>if x.1≤n then x.2 else w) 0
def H5 (n:Int):Int:=if O4 n=true then refTo n 34 else 0
theorem BH8 (n:Int):0≤R8 n∧R8 n≤2:=by unfold R8;split<;>(try split)<;>omega
def AO0 (l:List (Int×Int)):List (Nat×Value):=l.zipIdx.map fun (x,i)=>(i,.agg #[.int .i64 x.1,.int .i64 x.2])
def AB4 (l:List (Int×Int)):Array Value:=(AP4 l).toArray
theorem Am0:Tryz.prog.built 259 (AO0 K4)=some (AB4 K4):=by kernel_rfl
theorem At2:Tryz.prog.built 260 (AO0 O7)=some (AB4 O7):=by kernel_rfl
theorem As9:(Tryz.prog.info? 259).map (·.size)=some (AB4 K4).size:=by kernel_rfl
theorem size_two:(Tryz.prog.info? 260).map (·.size)=some (AB4 O7).size:=by kernel_rfl
theorem A80:(AB4 K4).all (·.oneCell')=true:=by kernel_rfl
theorem BE5:(AB4 O7).all (·.oneCell')=true:=by kernel_rfl
set_option maxRecDepth 100000 in
set_option maxHeartbeats 1000000 in
theorem BC3 (n:Int) (w:World) (h0:n<0∨1114111<n):
    Calls Tryz.prog 112 #[.int .i64 n] w fun e w'=>e= .returned (.int .i64 (R8 n))∧Below w.heap.size w w':=by
  have Hfin:Hid (R8 n=0):=by unfold Hid R8;rw[if_pos (by omega)]
  have hd:(decide (n<0)||decide (1114111<n))=true:=by simp;omega
  clear h0
  go_enter Tryz.func112,Tryz.ntmps112
  go_wp2_with (first|((with_reducible refine AD1 rfl 259 _ rfl (AO0 K4) (AB4 K4) ?_ Am0 ?_);(focus rfl))|((with_reducible refine AD1 rfl 260 _ rfl (AO0 O7) (AB4 O7) ?_ At2 ?_);(focus rfl))|((with_reducible refine l9 rfl 259 _ _ rfl _ w.heap.size _ (AB4 K4) rfl ?_ ?_ ?_ As9 ?_ A80 ?_);(focus rfl);(focus rfl);(focus rfl);(focus rfl))|((with_reducible refine l9 rfl 260 _ _ rfl _ (w.heap.size+1) _ (AB4 O7) rfl ?_ ?_ ?_ size_two ?_ BE5 ?_);(focus rfl);(focus rfl);(focus simp);(focus rfl)))
  all_goals
    go_ret
    exact⟨AY1 Hfin.out.symm,by go_grown⟩
set_option maxRecDepth 100000 in
set_option maxHeartbeats 1000000 in
theorem BK9 (n:Int) (w:World) (h0':0≤n∧n≤1114111):
    Calls Tryz.prog 112 #[.int .i64 n] w fun e w'=>e= .returned (.int .i64 (R8 n))∧Below w.heap.size w w':=by
  have Hfin:Hid (R8 n=if inTab n K4=true then 0 else if inTab n O7=true then 2 else 1):=by
    unfold Hid R8
    by_cases h:inTab n K4=true
    · rw[if_pos (.inr (.inr h)),if_pos h]
    · rw[if_neg (by rintro (h1|h1|h1)<;>(first|omega|exact h h1)),if_neg h]
  go_enter Tryz.func112,Tryz.ntmps112
  go_wp2_with (first|((with_reducible refine AD1 rfl 259 _ rfl (AO0 K4) (AB4 K4) ?_ Am0 ?_);(focus rfl))|((with_reducible refine AD1 rfl 260 _ rfl (AO0 O7) (AB4 O7) ?_ At2 ?_);(focus rfl))|((with_reducible refine l9 rfl 259 _ _ rfl _ w.heap.size _ (AB4 K4) rfl ?_ ?_ ?_ As9 ?_ A80 ?_);(focus rfl);(focus rfl);(focus rfl);(focus rfl))|((with_reducible refine l9 rfl 260 _ _ rfl _ (w.heap.size+1) _ (AB4 O7) rfl ?_ ?_ ?_ size_two ?_ BE5 ?_);(focus rfl);(focus rfl);(focus simp);(focus rfl)))
  refine(BV2 n K4 _ 6 6 _ rfl (by omega) ((At.newAt (by simp) rfl).alloc _)).mono ?_
  rintro e w1 ⟨rfl,hb1⟩
  have hb:Below w.heap.size w w1:=by refine Below.trans ?_ (hb1.mono ?_)<;>(go_grown)
  have hat:At w1 (some ⟨w.heap.size+1,0,none⟩) (AP4 O7):=(At.newAt (by simp) rfl).mono hb1
  clear hb1
  cases h1:inTab n K4 with
  | true=>
    rw[h1] at Hfin
    clear h1 hat
    go_wp2_with fail
    go_ret
    exact⟨AY1 Hfin.out.symm,hb⟩
  | false=>
    rw[h1] at Hfin
    clear h1
    go_wp2_with fail
    refine(BV2 n O7 _ 12 12 _ rfl (by omega) hat).mono ?_
    rintro e w2 ⟨rfl,hb2⟩
    have hb3:=BO4 hb hb2
    clear hat hb2 hb
    cases h2:inTab n O7
    all_goals
      rw[h2] at Hfin
      clear h2
      go_wp2_with fail
      go_ret
      exact⟨AY1 (by rw[Hfin.out];rfl),hb3⟩
theorem BA5 (n:Int) (w:World):
    Calls Tryz.prog 112 #[.int .i64 n] w fun e w'=>e= .returned (.int .i64 (R8 n))∧Below w.heap.size w w':=by
  by_cases h0:n<0∨1114111<n
  · exact BC3 n w h0
  · exact BK9 n w (by omega)
end
end Go.Proofs.YtmmnimagbnlcmaaGreatDoor
