/- Texts of this claim, merged: Cli2 Cli3 Utf Utf2 Utf3 Utf4 Utf6 Utf7 MaskW2 LineC IacP NvtP IacQ. -/
import Derived.Test.YtmmnimagbnlcmaaGreatDoorTd10
import Derived.Test.YtmmnimagbnlcmaaGreatDoorRows
import Derived.WalkKit
import Derived.WalkSpells
import Derived.WalkLawsBesides
import Derived.Handy
import Derived.Lib.Hide
import Derived.Laws.BitsAllLaws
import Derived.Deep.MidRow
import Derived.Deep.WholeRow
import Derived.BigQuiet
import Derived.Deep.QuietTactic
import Derived.Laws.CopyOwn
import Derived.StillTailTactics
import Derived.RegionTactic
import Derived.ChangeAlike
import Derived.Laws.AppendOwnNone
import Derived.Laws.MakeOwn
import Derived.Laws.IdiomStrings
import Derived.OrdersHeld
import Derived.Lib.SliceRun
import Derived.ChangeKeysEq
import Derived.Laws.CopyRow
import Derived.Lib.AppendStr
import Derived.ArgAppend
import Derived.Laws.RangeAny
import Derived.Maps.RangeRun
import Derived.Lib.Replace
import Derived.Shelf.Strings.Builder1
import Derived.Shelf.Strings.Builder2
import Derived.Shelf.Strings.OnBuilder
import Derived.Shelf.Strings.Trim
import Derived.Shelf.Small.Utf8
import Derived.Shelf.Small.Strs
import Derived.Shelf.Strings.BuilderF
import Derived.Shelf.Strconv.Itoa0
import Derived.Shelf.Strconv.Itoa1
import Derived.Shelf.LaysM
import Derived.Shelf.Strconv.Itoa2
import Derived.Shelf.Strconv.Itoa3
import Derived.Shelf.Strings.Search1
import Derived.Shelf.Strings.Search2
import Derived.Shelf.Strings.Search3
import Derived.Shelf.Strings.Count
import Derived.Shelf.Strings.Shaped
import Derived.Shelf.Strings.LastIndex
import Derived.Shelf.Strings.Prefix
import Derived.Shelf.Strings.Split
import Derived.Shelf.Strings.Replace
import Derived.Shelf.Strings.SplitShaped
import Derived.Shelf.Strings.Runes
import Derived.Shelf.Strings.AsciiSet
import Derived.Shelf.Bits.Mul64
import Derived.Shelf.Strings.Repeat
import Derived.Shelf.Unicode.DecodeSlow
import Derived.Shelf.Unicode.DecodeAny
import Derived.Shelf.Unicode.ValidAny
import Derived.Test.YtmmnimagbnlcmaaGreatDoorProg
import Derived.Lib.Repeat
import Derived.Lib.DecodeN
namespace Go.Proofs.YtmmnimagbnlcmaaGreatDoor
open Go Go.RowKit Go.Fw Go.Sx
set_option maxRecDepth 100000
section
set_option maxHeartbeats 1000000
theorem Bc0 {p q S:List Value} (h:q.length=S.length):over (p++q) p.length S=p++S:=by
  unfold over
  rw[List.take_left,List.drop_eq_nil_of_le (by simp;omega),List.append_nil]
theorem Ab1 {a N c vs:List Value} {off:Nat} (h:off+vs.length≤a.length):over (big a N c) off vs=big (over a off vs) N c:=by
  unfold over big
  rw[List.take_append_of_le_length (by omega),List.drop_append_of_le_length (by omega)]
  simp only[List.append_assoc]
theorem Al4 {a N c vs:List Value} {m off:Nat} [hN:Len N m] (h2:Nat.ble (a.length+m) off=true):over (big a N c) off vs=big a N (over c (off-(a.length+m)) vs):=by
  have h2:=Nat.le_of_ble_eq_true h2
  have hN:=hN.here
  have e3:(a++N).length=a.length+m:=by rw[List.length_append,hN]
  unfold over big
  rw[←List.append_assoc,List.take_append,List.take_of_length_le (by omega),List.drop_append,show (a++N).drop (off+vs.length)=[] from List.drop_eq_nil_of_le (by omega),e3,List.nil_append]
  simp only[List.append_assoc]
  congr 5
  omega
theorem AS6 {offs:List (Nat×Nat)} {l cs l':List Value} {i off sz:Nat} {r:List (Nat×List Value)} (h1:offs[i]? =some (off,sz)) (h2:cs.length=sz) (h3:0<sz) (h4:off+sz≤l.length) (h5:over l off cs=l'):AB2 offs l ((i,cs)::r)=AB2 offs l' r:=by
  rw[B56 h1 h2 h3 h4,←h5]
  unfold over
  rw[h2,List.append_assoc]
/-- Five, one, one, five cells: nothing under way. -/
def AD4:List Value:= .int .i64 0:: .int .i64 0:: .int .i64 0:: .string .empty:: .bool false:: .bool false:: .string .empty:: .int .i64 0:: .int .i64 0:: .string .empty:: .string .empty:: .string .empty::[]
def negZ:List Value:=List.replicate 512 (Value.int .u8 0)++List.replicate 8 (Value.int .u64 0)
def keyZ:List Value:=List.replicate 38 (Value.int .u8 0)
def cliE:List Value:=[.int .u64 0,.int .u64 0,.int .u64 0,.int .u64 0,.string .empty,.bool false,.bool false]
def cliZ:List Value:=big (AD4++scnZ) negZ (big [.slice none 0 0,.int .i64 0,.slice none 0 0] keyZ cliE)
def Ae7:List (Nat×Nat):=[(0,5),(5,1),(6,1),(7,5),(12,33),(45,520),(565,2),(567,1),(568,38),(606,4),(610,2),(612,1)]
instance CM9:Len negZ 520:=⟨by simp [negZ]⟩
instance CN0:Len keyZ 38:=⟨by simp [keyZ]⟩
theorem Ab3:OffsT Tryz.prog 56 Ae7 cliZ:=⟨(Ae7.toArray[·]?),fun _=>by kernel_rfl,fun i p h=>by simpa using h⟩
instance CM8:ZeroT Tryz.prog 56 cliZ:=⟨_,show still Tryz.prog (zeroValue 56)=some (.agg cliZ.toArray) by kernel_rfl,.agg _⟩
theorem Ba9:OffsT Tryz.prog 44 [(0,256),(256,256),(512,4),(516,4)] negZ:=⟨(([(0,256),(256,256),(512,4),(516,4)]:List (Nat×Nat)).toArray[·]?),fun _=>by kernel_rfl,fun i p h=>by simpa using h⟩
def cliP (na:Option Addr) (nn nc:Nat) (at':Int) (va:Option Addr) (vn vc:Nat):List Value:=[.slice na nn nc,.int .i64 at',.slice va vn vc]
theorem BG1 (S N:List Value) (hS:S.length=33) (hN:N.length=520) (na:Option Addr) (nn nc:Nat) (va:Option Addr) (vn vc:Nat):
    AB2 Ae7 cliZ [(4,S),(6,[.slice na nn nc,.int .i64 0]),(7,[.slice va vn vc]),(5,N)]=some (big (AD4++S) N (big (cliP na nn nc 0 va vn vc) keyZ cliE)):=by
  have hc:cliZ.length=613:=by unfold cliZ;exact o9 (m:=520) (by rw[show (big [Value.slice none 0 0,.int .i64 0,.slice none 0 0] keyZ cliE).length=48 from o9 (m:=38) rfl];rfl)
  have h1:over cliZ 12 S=big (AD4++S) negZ (big [.slice none 0 0,.int .i64 0,.slice none 0 0] keyZ cliE):=by
    unfold cliZ
    rw[Ab1 (by rw[hS];exact Nat.le_of_ble_eq_true rfl)]
    rw[show (12:Nat)=AD4.length from rfl,Bc0 (by rw[hS];rfl)]
  have hA:(AD4++S).length=45:=by rw[List.length_append,hS];rfl
  have h2:over (big (AD4++S) negZ (big [.slice none 0 0,.int .i64 0,.slice none 0 0] keyZ cliE)) 565 [.slice na nn nc,.int .i64 0]=big (AD4++S) negZ (big [.slice na nn nc,.int .i64 0,.slice none 0 0] keyZ cliE):=by
    rw[Al4 (m:=520) (by rw[hA];rfl),hA,show 565-(45+520)=0 from rfl,Ab1 (Nat.le_of_ble_eq_true rfl)]
    rfl
  have h3:over (big (AD4++S) negZ (big [.slice na nn nc,.int .i64 0,.slice none 0 0] keyZ cliE)) 567 [.slice va vn vc]=big (AD4++S) negZ (big (cliP na nn nc 0 va vn vc) keyZ cliE):=by
    rw[Al4 (m:=520) (by rw[hA];rfl),hA,show 567-(45+520)=2 from rfl,Ab1 (Nat.le_of_ble_eq_true rfl)]
    rfl
  have h4:over (big (AD4++S) negZ (big (cliP na nn nc 0 va vn vc) keyZ cliE)) 45 N=big (AD4++S) N (big (cliP na nn nc 0 va vn vc) keyZ cliE):=AH8 (m:=520) hA hN
  have hb:∀(P:List Value),P.length=3→(big (AD4++S) negZ (big P keyZ cliE)).length=613:=fun P hP=>by
    rw[o9 (m:=520) (k:=613) (by rw[show (big P keyZ cliE).length=48 from o9 (m:=38) (by rw[hP];rfl),hA];rfl)]
  rw[AS6 (off:=12) (sz:=33) rfl hS (by decide) (by rw[hc];decide) h1,AS6 (off:=565) (sz:=2) rfl rfl (by decide) (by rw[hb _ rfl];decide) h2,AS6 (off:=567) (sz:=1) rfl rfl (by decide) (by rw[hb _ rfl];decide) h3,AS6 (off:=45) (sz:=520) rfl hN (by decide) (by rw[hb _ rfl];decide) h4]
  rfl
theorem Bs7 (x:List Value) (y:List Value) (hx:x.length=4) (hy:y.length=4):AB2 [(0,256),(256,256),(512,4),(516,4)] negZ [(2,x),(3,y)]=some (List.replicate 512 (Value.int .u8 0)++(x++y)):=by
  have hz:negZ.length=520:=by simp [negZ]
  have h1:over negZ 512 x=List.replicate 512 (Value.int .u8 0)++(x++List.replicate 4 (.int .u64 0)):=by
    unfold over negZ
    rw[hx,List.take_append_of_le_length (by simp),List.take_of_length_le (by simp),List.drop_append,List.drop_eq_nil_of_le (by simp)]
    simp
  have h2:over (List.replicate 512 (Value.int .u8 0)++(x++List.replicate 4 (.int .u64 0))) 516 y=List.replicate 512 (Value.int .u8 0)++(x++y):=by
    unfold over
    rw[hy,←List.append_assoc,List.take_append,List.take_of_length_le (by simp;omega),List.drop_eq_nil_of_le (by simp;omega)]
    simp [hx]
  rw[AS6 (off:=512) (sz:=4) rfl hx (by decide) (by rw[hz];decide) h1,AS6 (off:=516) (sz:=4) rfl hy (by decide) (by simp [hx]) h2]
  rfl
theorem Az1 (x0 x1 x2 x3 x4 x5 x6 x7:Int):AB2 [(0,256),(256,256),(512,4),(516,4)] negZ [(2,[.int .u64 x0,.int .u64 x1,.int .u64 x2,.int .u64 x3]),(3,[.int .u64 x4,.int .u64 x5,.int .u64 x6,.int .u64 x7])]=some (negC (List.replicate 512 0) [x0,x1,x2,x3,x4,x5,x6,x7]):=by
  rw[Bs7 _ _ rfl rfl]
  unfold negC octs wds
  rw[List.map_replicate]
  rfl
theorem j3 {a N c:List Value} (h1:a.all (·.oneCell')=true) (h2:N.all (·.oneCell')=true) (h3:c.all (·.oneCell')=true):(big a N c).all (·.oneCell')=true:=by
  unfold big;rw[List.all_append,List.all_append,h1,h2,h3];rfl
theorem AB5 (W X:List Int):(negC W X).all (·.oneCell')=true:=by
  unfold negC wds octs
  simp [List.all_append,Value.oneCell']
theorem AG2 (K:List Int):(octs K).all (·.oneCell')=true:=A75 K
/-- The keys of a new client, those set whose numbers are in the list. -/
def kChC:List Int:=[127,21,23,18,22]
def kSet (p:Nat→Bool):List Int:=(List.range 38).map fun j=>if 10≤j∧j≤14∧p (j-10)=true then 2 else if 29≤j∧j≤33∧p (j-29)=true then kChC.getD (j-29) 0 else 0
theorem o6 (p:Nat→Bool):(kSet p).length=38:=by simp [kSet]
theorem BE0 (p:Nat→Bool) (j:Nat) (hj:j<38):(kSet p)[j]? =some (if 10≤j∧j≤14∧p (j-10)=true then 2 else if 29≤j∧j≤33∧p (j-29)=true then kChC.getD (j-29) 0 else 0):=by
  unfold kSet
  rw[List.getElem?_map,List.getElem?_range hj];rfl
theorem BU2:octs (kSet fun _=>false)=keyZ:=by
  rw[show kSet (fun _=>false)=List.replicate 38 0 from by decide+kernel];simp [octs,keyZ]
theorem BT6 (p:Nat→Bool) (i:Nat) (hi:i<5):((kSet p).set (10+i) 2).set (29+i) (kChC.getD i 0)=kSet fun j=>p j||j==i:=by
  apply List.ext_getElem?
  intro j
  by_cases hj:j<38
  · rw[BE0 _ j hj,List.getElem?_set,List.getElem?_set,BE0 _ j hj]
    simp only[List.length_set,o6]
    by_cases h1:29+i=j
    · subst h1
      have:¬(29+i≤14):=by omega
      simp [hj,this,show 29+i≤33 from by omega]
    · rw[if_neg h1]
      by_cases h2:10+i=j
      · subst h2
        simp [hj,show 10+i≤14 from by omega]
      · rw[if_neg h2]
        congr 1
        have e1:(10≤j∧j≤14∧p (j-10)=true)↔(10≤j∧j≤14∧(p (j-10)||j-10==i)=true):=by
          constructor
          · rintro ⟨a,b,c⟩;exact⟨a,b,by rw[c];rfl⟩
          · rintro ⟨a,b,c⟩
            refine⟨a,b,?_⟩
            rw[Bool.or_eq_true,beq_iff_eq] at c
            rcases c with c|c
            · exact c
            · omega
        have e2:(29≤j∧j≤33∧p (j-29)=true)↔(29≤j∧j≤33∧(p (j-29)||j-29==i)=true):=by
          constructor
          · rintro ⟨a,b,c⟩;exact⟨a,b,by rw[c];rfl⟩
          · rintro ⟨a,b,c⟩
            refine⟨a,b,?_⟩
            rw[Bool.or_eq_true,beq_iff_eq] at c
            rcases c with c|c
            · exact c
            · omega
        simp only[e1,e2]
  · rw[List.getElem?_eq_none (by simp [o6];omega),List.getElem?_eq_none (by simp [o6];omega)]
theorem AZ1 {p q:Nat→Bool} (h:∀i,i<5→p i=q i):kSet p=kSet q:=by
  unfold kSet
  refine List.map_congr_left fun j hj=>?_
  by_cases h1:10≤j∧j≤14
  · rw[h (j-10) (by omega),if_neg (by omega:¬(29≤j∧_)),if_neg (by omega:¬(29≤j∧_))]
  · rw[if_neg (by omega:¬(10≤j∧_)),if_neg (by omega:¬(10≤j∧_))]
    by_cases h2:29≤j∧j≤33
    · rw[h (j-29) (by omega)]
    · rw[if_neg (by omega:¬(29≤j∧_)),if_neg (by omega:¬(29≤j∧_))]
theorem BF8 {A N P E:List Value} {K:List Int} (hA:A.length=45) (hN:N.length=520) (hP:P.length=3) (hK:K.length=38) (j k:Nat) (v:Int) (hj:j<38) (hk:k=568+j):(big A N (big P (octs K) E)).set k (.int .u8 v)=big A N (big P (octs (K.set j v)) E):=by
  subst hk
  unfold big
  rw[List.set_append_right _ _ (by omega),List.set_append_right _ _ (by omega),List.set_append_right _ _ (by omega),List.set_append_left _ _ (by rw[AA7];omega),Bi9,hA,hN,hP,show 568+j-45-520-3=j from by omega]
theorem Aq7 {A N P E K:List Value} (hA:A.length=45) (hN:N.length=520) (hP:P.length=3) (hK:K.length=38) (hE:E.length=7):(big A N (big P K E)).length=613:=by
  unfold big
  simp only[List.length_append,hA,hN,hP,hK,hE]
/-- The map's five entries. -/
def kE (i:Nat):MapEntry:=⟨.int .i64 (10+i:Nat),.int .u8 (kChC.getD i 0),i⟩
def kEs:Array MapEntry:=#[kE 0,kE 1,kE 2,kE 3,kE 4]
theorem BD1 {y:MapEntry} (h:y∈kEs.toList):∃i,i<5∧y=kE i:=by
  simp only[kEs,List.mem_cons,List.not_mem_nil,or_false] at h
  rcases h with rfl|rfl|rfl|rfl|rfl
  · exact⟨0,by decide,rfl⟩
  · exact⟨1,by decide,rfl⟩
  · exact⟨2,by decide,rfl⟩
  · exact⟨3,by decide,rfl⟩
  · exact⟨4,by decide,rfl⟩
theorem kOld:∀y∈kEs.toList,y.born<5:=fun y h=>by obtain⟨i,hi,rfl⟩:=BD1 h;exact hi
theorem B51:(kEs.toList.map (·.born)).Nodup:=by decide
theorem Bp8 (i:Nat) (h:i<5):kE i∈kEs.toList:=by
  rcases (show i=0∨i=1∨i=2∨i=3∨i=4 by omega) with rfl|rfl|rfl|rfl|rfl<;>simp [kEs]
theorem kLeft {seen:Array Nat} {y:MapEntry} (h:y∈(leftOf kEs seen).toList):∃i,i<5∧y=kE i∧seen.contains i=false:=by
  unfold leftOf at h
  rw[Array.toList_filter,List.mem_filter] at h
  obtain⟨i,hi,rfl⟩:=BD1 h.1
  exact⟨i,hi,rfl,by simpa [kE] using h.2⟩
theorem B94 {seen:Array Nat} (h:(leftOf kEs seen).size=0) (i:Nat) (hi:i<5):seen.contains i=true:=by
  cases hc:seen.contains i with
  | true=>rfl
  | false=>
    have hm:kE i∈(leftOf kEs seen).toList:=by
      unfold leftOf
      rw[Array.toList_filter,List.mem_filter]
      exact⟨Bp8 i hi,by simpa [kE] using hc⟩
    rw[Array.eq_empty_of_size_eq_zero h] at hm
    cases hm
def m5 (a b c d e:Bool):Nat:=(!a).toNat+(!b).toNat+(!c).toNat+(!d).toNat+(!e).toNat
def kMu (seen:Array Nat):Nat:=m5 (seen.contains 0) (seen.contains 1) (seen.contains 2) (seen.contains 3) (seen.contains 4)
theorem B59 {seen:Array Nat} {i:Nat} (hi:i<5) (h:seen.contains i=false):kMu (seen.push i)<kMu seen:=by
  unfold kMu
  simp only[Array.contains_push]
  have key0:∀b c d e:Bool,m5 (false||true) (b||false) (c||false) (d||false) (e||false)<m5 false b c d e:=by decide
  have key1:∀b c d e:Bool,m5 (b||false) (false||true) (c||false) (d||false) (e||false)<m5 b false c d e:=by decide
  have key2:∀b c d e:Bool,m5 (b||false) (c||false) (false||true) (d||false) (e||false)<m5 b c false d e:=by decide
  have key3:∀b c d e:Bool,m5 (b||false) (c||false) (d||false) (false||true) (e||false)<m5 b c d false e:=by decide
  have key4:∀b c d e:Bool,m5 (b||false) (c||false) (d||false) (e||false) (false||true)<m5 b c d e false:=by decide
  rcases (show i=0∨i=1∨i=2∨i=3∨i=4 by omega) with rfl|rfl|rfl|rfl|rfl<;>rw[h]
  · exact key0 _ _ _ _
  · exact key1 _ _ _ _
  · exact key2 _ _ _ _
  · exact key3 _ _ _ _
  · exact key4 _ _ _ _
end
section
set_option maxHeartbeats 2000000
instance :MapT Tryz.prog 145 3 5 (.int .i64):=⟨Tryz.underlying145,Tryz.underlying3,rfl⟩
instance :MapT Tryz.prog 254 3 3 (.int .i64):=⟨Tryz.underlying254,Tryz.underlying3,rfl⟩
attribute [local irreducible] SW SL SQ AtQ SV SC BB LD PK Yields SO SOT SOA SY negC
/-- What may be on, eight words. -/
abbrev endsL (x:Nat→Int):List Value:=[.int .u64 (x 0),.int .u64 (x 1),.int .u64 (x 2),.int .u64 (x 3),.int .u64 (x 4),.int .u64 (x 5),.int .u64 (x 6),.int .u64 (x 7)]
abbrev endsX (x:Nat→Int):List Int:=[x 0,x 1,x 2,x 3,x 4,x 5,x 6,x 7]
/-- A new client. -/
def newC (S:List Value) (x:Nat→Int) (na:Option Addr) (nn nc:Nat) (va:Option Addr) (vn vc:Nat):List Value:=
  big (AD4++S) (negC (List.replicate 512 0) (endsX x)) (big (cliP na nn nc 0 va vn vc) (octs (kSet fun _=>true)) cliE)
theorem BZ9 (G:Ctx) (H:List Ent) (w h:Nat) (hw:1≤w∧w≤160) (hh:1≤h∧h≤60) (l:List ByteArray) (a:Option Addr) (n c:Nat) (L:List Vr) (va:Option Addr) (vn vc:Nat) (x:Nat→Int) [h1:RdC G H a (strs l)] [h2:RdC G H va (vrs L)]
    (hn:n=l.length) (hz:∀y∈l,y.size≤maxLen) (hm:n≤100000000) (hvn:vn=L.length) (hvm:vn≤100000000) (hs:AA6 l 0=0) (hv:(q9 L).2=0)
    (cS:∀(H:List Ent) (a:Option Addr) (c:Nat) [RdC G H a (strs l)] [CapC G H a n c],SV Tryz.prog G 48 [A74 a n c 0] H (.int .i64 (AA6 l 0)))
    (cW:∀(H:List Ent) [RdC G H va (vrs L)],SV Tryz.prog G 49 [.slice va vn vc] H (.tuple #[.string (q9 L).1,.int .i64 (q9 L).2])):
    SC Tryz.prog G 21 [.int .i64 w,.int .i64 h,.slice a n c,.slice va vn vc,.agg (endsL x).toArray] H fun v H'=>∃ga oa oc na nc xa xc,v= .tuple #[.agg (newC (scnC (newS w h) ga (w * h) (w * h) oa (w * h) oc none 0 0) x na n nc xa vn xc).toArray,.int .i64 0]∧
      H'= .own 142 4 xa vn xc (vrs L):: .own 9 1 na n nc (strs l):: .own 97 4 oa (w * h) oc (qds (newS w h).D):: .own 97 4 ga (w * h) (w * h) (qds (newS w h).C)::H:=by
  rw[hs] at cS
  rw[hv] at cW
  have cN:=fun H=>Ar5 G H w h hw hh
  have hls:(strs l).length=n * 1:=by simp [strs,hn]
  have hlv:(vrs L).length=vn * 4:=by unfold vrs;rw[AQ0,hvn]
  have hos:=A01 l
  have hov:=BC6 L
  have cC1:=fun (H:List Ent) [RdC G H a (strs l)]=>AU7 G H a n c hls hos hm
  have cC2:=fun (H:List Ent) [RdC G H va (vrs L)]=>AU6 G H va vn vc hlv hov hvm
  generalize (newS w h).C=SC' at *
  generalize (newS w h).D=SD' at *
  clear hs hv hn hvn
  generalize (q9 L).1=s0 at *
  have hB:=fun (na:Option Addr) (nc:Nat) (xa:Option Addr) (xc:Nat) (S:List Value) (hS:S.length=33)=>BG1 S (negC (List.replicate 512 0) (endsX x)) hS (AE8 (by simp) rfl) na n nc xa vn xc
  have hlN:=AE8 (W:=List.replicate 512 0) (X:=endsX x) (by simp) rfl
  have hNF:=Az1 (x 0) (x 1) (x 2) (x 3) (x 4) (x 5) (x 6) (x 7)
  have hone:=AB5 (List.replicate 512 0) (endsX x)
  haveI hLN:Len (negC (List.replicate 512 0) (endsX x)) 520:=⟨hlN⟩
  generalize hNd:negC (List.replicate 512 0) (endsX x)=N at *
  generalize w * h=p at *
  refine AU2 Tryz.func21 rfl rfl rfl rfl rfl ?_
  repeat' (first|(apply F3;first|(apply C8;refine A8 ?_)|(apply C9;refine D8 rfl rfl ?_)|(apply E5;refine F5 rfl rfl rfl ?_;refine F7 rfl ?_)|(apply D6;refine D9 rfl rfl ?_)|(apply Q6;refine U2 (K7 rfl rfl rfl) rfl ?_)|(apply H6;refine c_call rfl rfl rfl (cN _) rfl rfl ?_;rintro _ _ ⟨ga,oa,oc,rfl,rfl⟩)|(apply H9;refine M6 rfl rfl rfl rfl rfl rfl rfl rfl ?_)|(apply K9;refine O5 rfl rfl rfl rfl rfl rfl (fun _=>?_))|(apply L6;refine O0 rfl rfl rfl rfl (fun _=>?_)))|(apply D7)|(apply G9)|((fail_if_success (refine K3 (id:=4) ?_));apply A7)|(refine G5 rfl ?_;apply I5)|(apply D5))
  all_goals (skip)
  have hcl:∀(S P:List Value),S.length=33→P.length=3→(big (AD4++S) N (big P keyZ cliE)).length=613:=fun S P hS hP=>by
    rw[o9 (m:=520) (k:=613) (by rw[show (big P keyZ cliE).length=48 from o9 (m:=38) (by rw[hP];rfl),List.length_append,hS];rfl)]
  have hzl:cliZ.length=613:=by unfold cliZ;exact o9 (m:=520) (by rw[show (big [Value.slice none 0 0,.int .i64 0,.slice none 0 0] keyZ cliE).length=48 from o9 (m:=38) rfl];rfl)
  have hal:∀(S P:List Value),S.all (·.oneCell')=true→P.all (·.oneCell')=true→(big (AD4++S) N (big P keyZ cliE)).all (·.oneCell')=true:=fun S P hS hP=>j3 (by rw[List.all_append,hS];rfl) hone (j3 hP (by decide+kernel) rfl)
  rename_i b1 b2 b3
  refine j4 (α:=Nat×Option Addr×Nat×Option Addr×Nat) (fun g=>[(3,.slice va vn vc),(10,.pointer (some ⟨b2,0,none⟩)),(14,.pointer (some ⟨g.1,0,none⟩))])
    (fun g=> .blk g.1 56 (big (AD4++scnC (newS w h) ga p p oa p oc none 0 0) N (big (cliP g.2.1 n g.2.2.1 0 g.2.2.2.1 vn g.2.2.2.2) keyZ cliE)):: .own 142 4 g.2.2.2.1 vn g.2.2.2.2 (vrs L):: .own 9 1 g.2.1 n g.2.2.1 (strs l):: .own 97 4 oa p oc (qds SD'):: .own 97 4 ga p p (qds SC'):: .blk b2 56 cliZ::H) (fun _=>True) ?_ ?_
  · repeat' (first|(apply F3;first|(apply C8;refine A8 ?_)|(apply H6;first|(refine c_call rfl rfl rfl (cC1 _) rfl rfl ?_;rintro _ _ ⟨na,nc,rfl,rfl⟩)|(refine c_call rfl rfl rfl (cC2 _) rfl rfl ?_;rintro _ _ ⟨xa,xc,rfl,rfl⟩))|(apply H9;refine r9 rfl rfl rfl rfl (hal _ _ rfl rfl) (hcl _ _ rfl rfl) hzl rfl ?_)|(apply L6;refine O0 rfl rfl rfl rfl (fun _=>?_)))|(apply U4;refine R5 (k:=0) I8 ?_)|(apply V6;first|(refine O9 rfl ?_)|(refine P8 rfl rfl rfl rfl (by kernel_rfl) (by decide+kernel) (by decide+kernel) ?_;first|(apply U5;refine I4 (V4 rfl rfl) ?_)|(apply U9;refine U6 rfl ?_;first|refine K5 rfl ?_ |refine L8 rfl rfl ?_)|(apply Q0;refine I4 (E8 rfl rfl) ?_)|(apply AH3;first|refine I4 (O6 rfl rfl rfl) ?_ |(first|(refine I4 (O6 (h:=Ba9) rfl rfl hNF) ?_)|(refine I4 (O6 (h:=Ab3) rfl rfl (hB _ _ _ _ _ rfl)) ?_))))|(refine P9 rfl ?_)|(refine R4 (by decide+kernel) ?_)|(refine S9 (by kernel_rfl) ?_))|(apply X4;first|(refine T9 rfl)|(refine U7 (by decide+kernel) ?_)|(refine U0 rfl ?_ ?_))|(refine K3 (id:=4) ?_;refine V3 _ (fun _ hw=>hw) ?_))
    all_goals
      rename_i b4
      exact J6 (b4,na,nc,xa,xc) trivial (by repeat (first|exact Le.nil _|refine Le.cons (by (rfl)) ?_)) I8
  rintro ⟨b4,na,nc,xa,xc⟩-
  dsimp only
  repeat' (first|(apply F3;first|(apply C8;refine A8 ?_)|(apply C9;refine D8 rfl rfl ?_)|(apply E5;refine F5 rfl rfl rfl ?_;refine F7 rfl ?_)|(apply F4;refine F8 rfl rfl ?_;refine L8 (Z9 (m:=520) rfl (AG1 rfl)) rfl ?_)|(apply D6;refine D9 rfl rfl ?_)|(apply G7;refine G8 (E8 rfl rfl) rfl ?_)|(apply Q6;refine U2 (K7 rfl rfl rfl) rfl ?_)|(apply H6;first|refine F9 rfl rfl rfl (cS _ _ _) rfl rfl ?_ |refine F9 rfl rfl rfl (cW _) rfl rfl ?_)|(first|(refine BW3 rfl rfl rfl rfl (fun _=>?_))|(refine Bm5 rfl rfl rfl rfl rfl rfl rfl ?_)|(refine BI2 rfl rfl rfl rfl rfl (fun _=>?_))))|(apply D7)|(apply G9)|(apply F6)|((fail_if_success (refine K3 (id:=12) ?_));apply A7)|(refine G5 rfl ?_;apply I5)|(apply D5))
  all_goals (skip)
  rename_i bm it
  generalize hA:AD4++scnC (newS w h) ga p p oa p oc none 0 0=A at *
  have hAl:A.length=45:=by rw[←hA];rfl
  generalize hP:cliP na n nc 0 xa vn xc=P at *
  have hPl:P.length=3:=by rw[←hP];rfl
  have hk0:octs (kSet fun i=>(#[]:Array Nat).contains i)=keyZ:=by rw[←BU2,AZ1 (p:=fun i=>(#[]:Array Nat).contains i) (q:=fun _=>false) (fun i _=>by simp)]
  refine R9 (α:=Array Nat) (fun seen=>[(10,.pointer (some ⟨b2,0,none⟩)),(14,.pointer (some ⟨b4,0,none⟩)),(60,.pointer (some ⟨it,0,none⟩))])
    (fun seen=> .obj it (.mapIter (some bm) 5 seen 5):: .obj bm (.map kEs 5):: .blk b4 56 (big A N (big P (octs (kSet fun i=>seen.contains i)) cliE)):: .own 142 4 xa vn xc (vrs L):: .own 9 1 na n nc (strs l):: .own 97 4 oa p oc (qds SD'):: .own 97 4 ga p p (qds SC'):: .blk b2 56 cliZ::H)
    (fun _=>True) kMu #[] trivial (by repeat (first|exact Le.nil _|refine Le.cons (by (rfl)) ?_)) (fun _ hw=>by rw[hk0];exact hw) ?_
  intro seen _
  repeat' (first|(apply F3;first|(apply C8;refine A8 ?_)|(apply D6;refine D9 rfl rfl ?_)|(apply Q6;refine U2 (K7 rfl rfl rfl) rfl ?_)|(first|(refine BO6 rfl rfl rfl rfl rfl kOld (Nat.le_refl _) (fun y hy=>?_) (fun h0=>?_);(obtain⟨i,hi,rfl,hc⟩:=kLeft hy))|(refine AB1 rfl (Bt9 rfl rfl (Bp8 _ hi) B51) rfl rfl ?_)))|(apply D7)|(apply G9)|(apply N8)|(apply F6)|((fail_if_success (refine K3 (id:=14) ?_));apply A7)|(refine G5 rfl ?_;first|(apply I7)|(apply I5))|(apply D5)|(apply J7)|(apply J8))
  · have s1:=BF8 (E:=cliE) hAl hlN hPl (o6 fun j=>seen.contains j) (10+i) (568+0+((10+i:Nat):Int).toNat * 1) 2 (by omega) (by omega)
    have s2:=BF8 (E:=cliE) hAl hlN hPl (K:=(kSet fun j=>seen.contains j).set (10+i) 2) (by rw[List.length_set];exact o6 _) (29+i) (568+19+((10+i:Nat):Int).toNat * 1) (kChC.getD i 0) (by omega) (by omega)
    rw[BT6 _ i hi,AZ1 (p:=fun j=>seen.contains j||j==i) (q:=fun j=>(seen.push i).contains j) (fun j _=>by rw[Array.contains_push])] at s2
    have l1:568+0+((10+i:Nat):Int).toNat * 1<(big A N (big P (octs (kSet fun j=>seen.contains j)) cliE)).length:=by rw[Aq7 hAl hlN hPl (by rw[AA7];exact o6 _) rfl];omega
    have l2:568+19+((10+i:Nat):Int).toNat * 1<(big A N (big P (octs ((kSet fun j=>seen.contains j).set (10+i) 2)) cliE)).length:=by rw[Aq7 hAl hlN hPl (by rw[AA7,List.length_set];exact o6 _) rfl];omega
    repeat' (first|(apply F3;first|(apply C8;refine A8 ?_)|(apply C9;refine D8 rfl rfl ?_)|(apply G7;first|refine G8 (E8 rfl rfl) rfl ?_ |refine G8 (w9 rfl rfl) rfl ?_)|(apply M4;refine N9 (AB7 rfl rfl rfl (by omega) (by omega)) rfl ?_)|(apply H9;first|(refine AM5 rfl rfl rfl rfl rfl s1 l1 rfl ?_)|(refine AM5 rfl rfl rfl rfl rfl s2 l2 rfl ?_)))|(apply A7)|(apply J2))
    exact J6 (seen.push i) ⟨trivial,B59 hi hc⟩ (by repeat (first|exact Le.nil _|refine Le.cons (by (rfl)) ?_)) I8
  · have hlen:=Aq7 (E:=cliE) hAl hlN hPl (K:=octs (kSet fun i=>seen.contains i)) (by rw[AA7];exact o6 _) rfl
    have hall:(big A N (big P (octs (kSet fun i=>seen.contains i)) cliE)).all (·.oneCell')=true:=j3 (by rw[←hA];rfl) hone (j3 (by rw[←hP];rfl) (AG2 _) rfl)
    have hz5:cliZ.length=613:=hzl
    repeat' (first|(apply F3;first|(apply C8;refine A8 ?_)|(apply F4;refine F8 rfl rfl ?_;refine K5 (by rw[hlen];rfl) ?_)|(apply D6;refine D9 rfl rfl ?_)|(apply H9;refine r9 rfl rfl rfl rfl hall hlen hz5 rfl ?_))|(apply H7)|(apply D5))
    refine d9 (.own 142 4 xa vn xc (vrs L):: .own 9 1 na n nc (strs l):: .own 97 4 oa p oc (qds SD'):: .own 97 4 ga p p (qds SC')::H) (.inr rfl) rfl hlen rfl I8 ?_
    exact⟨ga,oa,oc,na,nc,xa,xc,by unfold newC;rw[hA,hP,hNd,AZ1 (p:=fun _=>true) (q:=fun i=>seen.contains i) (fun i hi=>(B94 h0 i hi).symm)];rfl,rfl⟩
theorem Bm7 (G:Ctx) (H:List Ent) (w h e:Int) (l:List ByteArray) (a:Option Addr) (n c:Nat) (L:List Vr) (va:Option Addr) (vn vc:Nat) (x:Nat→Int) [h1:RdC G H a (strs l)] [h2:RdC G H va (vrs L)]
    (hn:n=l.length) (hm:n≤100000000) (hvn:vn=L.length) (hvm:vn≤100000000)
    (he:(sizeE w h=1∧e=1)∨(sizeE w h=0∧AA6 l 0≠0∧e=AA6 l 0)∨(sizeE w h=0∧AA6 l 0=0∧(q9 L).2≠0∧e=(q9 L).2))
    (cS:∀(H:List Ent) (a:Option Addr) (c:Nat) [RdC G H a (strs l)] [CapC G H a n c],SV Tryz.prog G 48 [A74 a n c 0] H (.int .i64 (AA6 l 0)))
    (cW:∀(H:List Ent) [RdC G H va (vrs L)],SV Tryz.prog G 49 [.slice va vn vc] H (.tuple #[.string (q9 L).1,.int .i64 (q9 L).2])):
    SV Tryz.prog G 21 [.int .i64 w,.int .i64 h,.slice a n c,.slice va vn vc,.agg (endsL x).toArray] H (.tuple #[.agg cliZ.toArray,.int .i64 e]):=by
  have hcz:cliZ.length=613:=by unfold cliZ;exact o9 (m:=520) (by rw[show (big [Value.slice none 0 0,.int .i64 0,.slice none 0 0] keyZ cliE).length=48 from o9 (m:=38) rfl];rfl)
  have hza:cliZ.all (·.oneCell')=true:=by decide+kernel
  have hzf:AB2 Ae7 cliZ []=some cliZ:=rfl
  rcases he with ⟨hs,rfl⟩|he2
  · have cN:=fun H=>Bm0 G H w h hs
    clear cS cW hn hvn
    refine At3 Tryz.func21 rfl rfl rfl rfl rfl ?_
    repeat' (first|(apply F3;first|(apply C8;refine A8 ?_)|(apply C9;refine D8 rfl rfl ?_)|(apply E5;refine F5 rfl rfl rfl ?_;refine F7 rfl ?_)|(apply D6;refine D9 rfl rfl ?_)|(apply Q6;refine U2 (K7 rfl rfl rfl) rfl ?_)|(apply P5;refine R7 (O6 (h:=Ab3) rfl rfl hzf) rfl ?_)|(apply H6;refine F9 rfl rfl rfl (cN _) rfl rfl ?_)|(apply H9;refine M6 rfl rfl rfl rfl rfl rfl rfl rfl ?_)|(apply K9;refine O5 rfl rfl rfl rfl rfl rfl (fun _=>?_))|(apply L6;refine O0 rfl rfl rfl rfl (fun _=>?_)))|(apply D7)|(apply H7)|((fail_if_success (refine K3 (id:=4) ?_));apply A7)|(refine G5 rfl ?_;apply I7)|(apply D5)|(apply J4))
    all_goals (skip)
    refine d9 H (.inr rfl) rfl hcz rfl I8 ?_
    exact⟨rfl,rfl⟩
  have hs:sizeE w h=0:=by rcases he2 with h|h<;>exact h.1
  have he:(AA6 l 0≠0∧e=AA6 l 0)∨(AA6 l 0=0∧(q9 L).2≠0∧e=(q9 L).2):=by
    rcases he2 with ⟨-,h⟩|⟨-,h⟩
    · exact .inl h
    · exact .inr h
  clear he2
  obtain⟨W,rfl,V,rfl,hw,hh⟩:∃W:Nat,w=W∧∃V:Nat,h=V∧(1≤W∧W≤160)∧(1≤V∧V≤60):=by
    rcases AL5 w h with ⟨h3,h4⟩|⟨h3,h4⟩
    · exact⟨w.toNat,by omega,h.toNat,by omega,by omega,by omega⟩
    · omega
  have he:∃y z:Int,AA6 l 0=y∧(q9 L).2=z∧((y≠0∧e=y)∨(y=0∧z≠0∧e=z)):=by
    rcases he with ⟨h3,h4⟩|⟨h3,h4,h5⟩
    · exact⟨_,_,rfl,rfl,.inl ⟨h3,h4⟩⟩
    · exact⟨_,_,rfl,rfl,.inr ⟨h3,h4,h5⟩⟩
  obtain⟨y,z,h3,h4,he⟩:=he
  rw[h3] at cS
  rw[h4] at cW
  clear h3 h4 hs
  generalize (q9 L).1=s0 at *
  have cN:=fun H=>Ar5 G H W V hw hh
  have hls:(strs l).length=n * 1:=by simp [strs,hn]
  have hlv:(vrs L).length=vn * 4:=by unfold vrs;rw[AQ0,hvn]
  have hos:=A01 l
  have hov:=BC6 L
  have cC1:=fun (H:List Ent) [RdC G H a (strs l)]=>AU7 G H a n c hls hos hm
  have cC2:=fun (H:List Ent) [RdC G H va (vrs L)]=>AU6 G H va vn vc hlv hov hvm
  generalize (newS W V).C=SC' at *
  generalize (newS W V).D=SD' at *
  clear hn hvn
  have hB:=fun (na:Option Addr) (nc:Nat) (xa:Option Addr) (xc:Nat) (S:List Value) (hS:S.length=33)=>BG1 S (negC (List.replicate 512 0) (endsX x)) hS (AE8 (by simp) rfl) na n nc xa vn xc
  have hlN:=AE8 (W:=List.replicate 512 0) (X:=endsX x) (by simp) rfl
  have hNF:=Az1 (x 0) (x 1) (x 2) (x 3) (x 4) (x 5) (x 6) (x 7)
  have hone:=AB5 (List.replicate 512 0) (endsX x)
  haveI hLN:Len (negC (List.replicate 512 0) (endsX x)) 520:=⟨hlN⟩
  generalize hNd:negC (List.replicate 512 0) (endsX x)=N at *
  generalize W * V=p at *
  refine At3 Tryz.func21 rfl rfl rfl rfl rfl ?_
  repeat' (first|(apply F3;first|(apply C8;refine A8 ?_)|(apply C9;refine D8 rfl rfl ?_)|(apply E5;refine F5 rfl rfl rfl ?_;refine F7 rfl ?_)|(apply D6;refine D9 rfl rfl ?_)|(apply Q6;refine U2 (K7 rfl rfl rfl) rfl ?_)|(apply H6;refine c_call rfl rfl rfl (cN _) rfl rfl ?_;rintro _ _ ⟨ga,oa,oc,rfl,rfl⟩)|(apply H9;refine M6 rfl rfl rfl rfl rfl rfl rfl rfl ?_)|(apply K9;refine O5 rfl rfl rfl rfl rfl rfl (fun _=>?_))|(apply L6;refine O0 rfl rfl rfl rfl (fun _=>?_)))|(apply D7)|(apply G9)|((fail_if_success (refine K3 (id:=4) ?_));apply A7)|(refine G5 rfl ?_;apply I5)|(apply D5))
  all_goals (skip)
  have hcl:∀(S P:List Value),S.length=33→P.length=3→(big (AD4++S) N (big P keyZ cliE)).length=613:=fun S P hS hP=>by
    rw[o9 (m:=520) (k:=613) (by rw[show (big P keyZ cliE).length=48 from o9 (m:=38) (by rw[hP];rfl),List.length_append,hS];rfl)]
  have hzl:cliZ.length=613:=by unfold cliZ;exact o9 (m:=520) (by rw[show (big [Value.slice none 0 0,.int .i64 0,.slice none 0 0] keyZ cliE).length=48 from o9 (m:=38) rfl];rfl)
  have hal:∀(S P:List Value),S.all (·.oneCell')=true→P.all (·.oneCell')=true→(big (AD4++S) N (big P keyZ cliE)).all (·.oneCell')=true:=fun S P hS hP=>j3 (by rw[List.all_append,hS];rfl) hone (j3 hP (by decide+kernel) rfl)
  rename_i b1 b2 b3
  refine j4 (α:=Nat×Option Addr×Nat×Option Addr×Nat) (fun g=>[(3,.slice va vn vc),(10,.pointer (some ⟨b2,0,none⟩)),(14,.pointer (some ⟨g.1,0,none⟩))])
    (fun g=> .blk g.1 56 (big (AD4++scnC (newS W V) ga p p oa p oc none 0 0) N (big (cliP g.2.1 n g.2.2.1 0 g.2.2.2.1 vn g.2.2.2.2) keyZ cliE)):: .own 142 4 g.2.2.2.1 vn g.2.2.2.2 (vrs L):: .own 9 1 g.2.1 n g.2.2.1 (strs l):: .own 97 4 oa p oc (qds SD'):: .own 97 4 ga p p (qds SC'):: .blk b2 56 cliZ::H) (fun _=>True) ?_ ?_
  · repeat' (first|(apply F3;first|(apply C8;refine A8 ?_)|(apply H6;first|(refine c_call rfl rfl rfl (cC1 _) rfl rfl ?_;rintro _ _ ⟨na,nc,rfl,rfl⟩)|(refine c_call rfl rfl rfl (cC2 _) rfl rfl ?_;rintro _ _ ⟨xa,xc,rfl,rfl⟩))|(apply H9;refine r9 rfl rfl rfl rfl (hal _ _ rfl rfl) (hcl _ _ rfl rfl) hzl rfl ?_)|(apply L6;refine O0 rfl rfl rfl rfl (fun _=>?_)))|(apply U4;refine R5 (k:=0) I8 ?_)|(apply V6;first|(refine O9 rfl ?_)|(refine P8 rfl rfl rfl rfl (by kernel_rfl) (by decide+kernel) (by decide+kernel) ?_;first|(apply U5;refine I4 (V4 rfl rfl) ?_)|(apply U9;refine U6 rfl ?_;first|refine K5 rfl ?_ |refine L8 rfl rfl ?_)|(apply Q0;refine I4 (E8 rfl rfl) ?_)|(apply AH3;first|refine I4 (O6 rfl rfl rfl) ?_ |(first|(refine I4 (O6 (h:=Ba9) rfl rfl hNF) ?_)|(refine I4 (O6 (h:=Ab3) rfl rfl (hB _ _ _ _ _ rfl)) ?_))))|(refine P9 rfl ?_)|(refine R4 (by decide+kernel) ?_)|(refine S9 (by kernel_rfl) ?_))|(apply X4;first|(refine T9 rfl)|(refine U7 (by decide+kernel) ?_)|(refine U0 rfl ?_ ?_))|(refine K3 (id:=4) ?_;refine V3 _ (fun _ hw=>hw) ?_))
    all_goals
      rename_i b4
      exact J6 (b4,na,nc,xa,xc) trivial (by repeat (first|exact Le.nil _|refine Le.cons (by (rfl)) ?_)) I8
  rintro ⟨b4,na,nc,xa,xc⟩-
  dsimp only
  have hz5:cliZ.length=613:=hzl
  rcases he with ⟨h3,rfl⟩|⟨h3,h5,rfl⟩
  · repeat' (first|(apply F3;first|(apply C8;refine A8 ?_)|(apply C9;refine D8 rfl rfl ?_)|(apply E5;refine F5 rfl rfl rfl ?_;refine F7 rfl ?_)|(apply F4;refine F8 rfl rfl ?_;refine L8 (Z9 (m:=520) rfl (AG1 rfl)) rfl ?_)|(apply D6;refine D9 rfl rfl ?_)|(apply G7;refine G8 (E8 rfl rfl) rfl ?_)|(apply P5;refine R7 (O6 (h:=Ab3) rfl rfl hzf) rfl ?_)|(apply H6;refine F9 rfl rfl rfl (cS _ _ _) rfl rfl ?_)|(apply H9;refine M6 rfl rfl rfl rfl rfl rfl rfl rfl ?_))|(apply D7)|(apply H7)|((fail_if_success (refine K3 (id:=12) ?_));apply A7)|(refine G5 rfl ?_;apply X6<;>intro hq<;>(try (exfalso;omega)))|(apply D5)|(apply J4))
    all_goals (skip)
    refine d9 H (.inr rfl) rfl hcz rfl I8 ?_
    exact⟨rfl,rfl⟩
  · subst h3
    repeat' (first|(apply F3;first|(apply C8;refine A8 ?_)|(apply C9;refine D8 rfl rfl ?_)|(apply E5;refine F5 rfl rfl rfl ?_;refine F7 rfl ?_)|(apply F4;refine F8 rfl rfl ?_;refine L8 (Z9 (m:=520) rfl (AG1 rfl)) rfl ?_)|(apply D6;refine D9 rfl rfl ?_)|(apply G7;refine G8 (E8 rfl rfl) rfl ?_)|(apply Q6;refine U2 (K7 rfl rfl rfl) rfl ?_)|(apply P5;refine R7 (O6 (h:=Ab3) rfl rfl hzf) rfl ?_)|(apply H6;first|refine F9 rfl rfl rfl (cS _ _ _) rfl rfl ?_ |refine F9 rfl rfl rfl (cW _) rfl rfl ?_)|(apply H9;refine M6 rfl rfl rfl rfl rfl rfl rfl rfl ?_))|(apply D7)|(apply G9)|(apply H7)|((fail_if_success (refine K3 (id:=12) ?_));apply A7)|(refine G5 rfl ?_;first|(apply I5)|(apply X6<;>intro hq<;>(try (exfalso;omega))))|(apply D5)|(apply J4))
    all_goals (skip)
    refine d9 H (.inr rfl) rfl hcz rfl I8 ?_
    exact⟨rfl,rfl⟩
end
end Go.Proofs.YtmmnimagbnlcmaaGreatDoor
section
namespace Go.Fw
open Go Go.RowKit Go.Sx
/-- How many bytes follow a first one, and the bounds of the second one. -/
def needU (c:Int):Int×Int×Int:=
  if 194≤c∧c≤223 then (1,128,191) else if c=224 then (2,160,191) else if c=237 then (2,128,159) else if 225≤c∧c≤239 then (2,128,191) else if c=240 then (3,144,191) else if c=244 then (3,128,143) else if 241≤c∧c≤243 then (3,128,191) else (0,0,0)
/-- The longest beginning, and whether it is whole. -/
def longU (L:List Int):Int×Bool:=
  if (needU (L.getD 0 0)).1=0 then (0,false)
  else if ¬(2≤L.length∧(needU (L.getD 0 0)).2.1≤L.getD 1 0∧L.getD 1 0≤(needU (L.getD 0 0)).2.2) then (1,false)
  else if ¬(2≤(needU (L.getD 0 0)).1∧3≤L.length∧128≤L.getD 2 0∧L.getD 2 0≤191) then (2,decide ((needU (L.getD 0 0)).1<2))
  else if ¬(3≤(needU (L.getD 0 0)).1∧4≤L.length∧128≤L.getD 3 0∧L.getD 3 0≤191) then (3,decide ((needU (L.getD 0 0)).1<3))
  else (4,true)
/-- A beginning, not whole. -/
def partU (L:List Int):Prop:=(longU L).2=false∧(longU L).1=L.length
instance (L:List Int):Decidable (partU L):=by unfold partU;infer_instance
/-- The bytes of one rune. -/
def wfU (L:List Int):Bool:=match L with
  | [a]=>decide (0≤a∧a<128)
  | [a,b]=>decide (194≤a∧a≤223∧128≤b∧b≤191)
  | [a,b,c]=>decide (224≤a∧a≤239∧128≤b∧b≤191∧128≤c∧c≤191∧(a=224→160≤b)∧(a=237→b≤159))
  | [a,b,c,d]=>decide (240≤a∧a≤244∧128≤b∧b≤191∧128≤c∧c≤191∧128≤d∧d≤191∧(a=240→144≤b)∧(a=244→b≤143))
  | _=>false
theorem AC2 (a:Int):(194≤a∧a≤223∧needU a=(1,128,191))∨(a=224∧needU a=(2,160,191))∨(a=237∧needU a=(2,128,159))∨(225≤a∧a≤239∧a≠237∧needU a=(2,128,191))∨(a=240∧needU a=(3,144,191))∨(a=244∧needU a=(3,128,143))∨(241≤a∧a≤243∧needU a=(3,128,191))∨((a<194∨244<a)∧needU a=(0,0,0)):=by
  unfold needU
  repeat' split
  all_goals (simp_all<;>omega)
end Go.Fw
end
namespace Go.Proofs.YtmmnimagbnlcmaaGreatDoor
open Go Go.RowKit Go.Fw Go.Sx
set_option maxRecDepth 100000
section
set_option maxHeartbeats 1000000
attribute [local irreducible] SW SL SQ AtQ SV SC BB LD PK Yields SO SOT SOA SY
def isR (c:Int):Prop:=(0≤c∧c≤55295)∨(57344≤c∧c≤1114111)
instance (c:Int):Decidable (isR c):=by unfold isR;infer_instance
theorem Bv8 (G:Ctx) (H:List Ent) (c:Int) (h:0≤c∧c≤255):SV Tryz.prog G 52 [.int .u8 c] H (.tuple #[.int .i64 (needU c).1,.int .u8 (needU c).2.1,.int .u8 (needU c).2.2]):=by
  refine M5 Tryz.func52 rfl rfl rfl rfl rfl ?_
  rcases AC2 c with ⟨h1,h2,hn⟩|⟨h1,hn⟩|⟨h1,hn⟩|⟨h1,h2,h3,hn⟩|⟨h1,hn⟩|⟨h1,hn⟩|⟨h1,h2,hn⟩|⟨h1,hn⟩
  all_goals
    rw[hn]
    clear hn
    repeat' (first|(apply F3;first|(apply C8;refine A8 ?_)|(apply C9;refine D8 rfl rfl ?_)|(apply E5;refine F5 rfl rfl rfl ?_;refine F7 rfl ?_)|(apply D6;refine D9 rfl rfl ?_)|(apply I6;refine I9 rfl rfl ?_;first|(apply Q9;refine Q8 rfl ?_)|(apply O1;refine O3 rfl ?_))|(apply I1;refine J9 rfl rfl rfl rfl ?_;first|(apply I7)|(apply I5)|(apply E9<;>intro hq<;>(try (exfalso;omega)))))|(apply D7)|(apply G9)|(apply H7)|(apply F6)|(apply A7)|(refine G5 rfl ?_;first|(apply I5)|(apply E9<;>intro hq<;>(try (exfalso;omega))))|(apply D5)|(apply J4)|(apply J2)|(apply U1))
    all_goals (refine M3 (by (exact .inr rfl)) rfl N7 ?_;rfl)
theorem Am5 (G:Ctx) (H:List Ent) (s:ByteArray) (h:0<s.size) (hm:s.size≤9223372036854775807):SV Tryz.prog G 28 [.string s] H (.tuple #[.int .i64 (longU (nums s)).1,.bool (longU (nums s)).2]):=by
  have hl:=nums_length s
  have hbd:∀k,k<s.size→0≤(nums s).getD k 0∧(nums s).getD k 0≤255:=fun k hk=>by
    have:=AD5 s ((nums s).getD k 0) (by
      rw[List.getD_eq_getElem?_getD,List.getElem?_eq_getElem (by omega)]
      exact List.getElem_mem _)
    exact this
  have cN:=fun H=>Bv8 G H ((nums s).getD 0 0) (hbd 0 h)
  have e:longU (nums s)=(if (needU ((nums s).getD 0 0)).1=0 then (0,false)
    else if ¬(2≤s.size∧(needU ((nums s).getD 0 0)).2.1≤(nums s).getD 1 0∧(nums s).getD 1 0≤(needU ((nums s).getD 0 0)).2.2) then (1,false)
    else if ¬(2≤(needU ((nums s).getD 0 0)).1∧3≤s.size∧128≤(nums s).getD 2 0∧(nums s).getD 2 0≤191) then (2,decide ((needU ((nums s).getD 0 0)).1<2))
    else if ¬(3≤(needU ((nums s).getD 0 0)).1∧4≤s.size∧128≤(nums s).getD 3 0∧(nums s).getD 3 0≤191) then (3,decide ((needU ((nums s).getD 0 0)).1<3))
    else (4,true)):=by unfold longU;rw[hl]
  rw[e]
  have hn:(needU ((nums s).getD 0 0)).1=0∨(needU ((nums s).getD 0 0)).1=1∨(needU ((nums s).getD 0 0)).1=2∨(needU ((nums s).getD 0 0)).1=3:=by
    rcases AC2 ((nums s).getD 0 0) with ⟨h1,h2,hn⟩|⟨h1,hn⟩|⟨h1,hn⟩|⟨h1,h2,h3,hn⟩|⟨h1,hn⟩|⟨h1,hn⟩|⟨h1,h2,hn⟩|⟨h1,hn⟩<;>rw[hn]<;>simp
  have h1b:=hbd 1
  have h2b:=hbd 2
  have h3b:=hbd 3
  generalize needU ((nums s).getD 0 0)=nd at *
  obtain⟨m,lo,hi⟩:=nd
  dsimp only at hn cN ⊢
  clear e hbd
  have ix:=fun (k:Nat)=>(rfl:(nums s).getD (k:Int).toNat 0=(nums s).getD k 0)
  generalize hL1:(nums s).getD 1 0=b1 at *
  generalize hL2:(nums s).getD 2 0=b2 at *
  generalize hL3:(nums s).getD 3 0=b3 at *
  clear ix
  have g1:(nums s).getD (Int.toNat 1) 0=b1:=hL1
  have g2:(nums s).getD (Int.toNat (1+1)) 0=b2:=hL2
  have g3:(nums s).getD (Int.toNat (1+1+1)) 0=b3:=hL3
  rcases hn with rfl|rfl|rfl|rfl
  · refine M5 Tryz.func28 rfl rfl rfl rfl rfl ?_
    repeat' (first|(apply F3;first|(apply C8;refine A8 ?_)|(apply C9;refine D8 rfl rfl ?_)|(apply E5;refine F5 rfl rfl rfl ?_;refine F7 rfl ?_)|(apply D6;refine D9 rfl rfl ?_)|(apply Q6;refine U2 (K7 rfl rfl rfl) rfl ?_)|(apply U8;refine W9 (o8 rfl rfl rfl (by omega) (by omega)) rfl ?_)|(apply H6;refine F9 rfl rfl rfl (cN _) rfl rfl ?_))|(apply D7)|(apply H7)|(apply A7)|(refine G5 rfl ?_;apply I7)|(apply D5)|(apply J4))
    all_goals (refine M3 (by (exact .inr rfl)) rfl N7 ?_;rfl)
  all_goals
    refine M5 Tryz.func28 rfl rfl rfl rfl rfl ?_
    repeat' (first|(apply F3;first|(apply C8;refine A8 ?_)|(apply C9;refine D8 rfl rfl ?_)|(apply E5;refine F5 rfl rfl rfl ?_;refine F7 rfl ?_)|(apply D6;refine D9 rfl rfl ?_)|(apply Q6;refine U2 (K7 rfl rfl rfl) rfl ?_)|(apply U8;refine W9 (o8 rfl rfl rfl (by omega) (by omega)) rfl ?_)|(apply H6;refine F9 rfl rfl rfl (cN _) rfl rfl ?_))|(apply D7)|(apply G9)|(apply F6)|(apply A7)|(refine G5 rfl ?_;apply I5)|(apply D5))
    all_goals (skip)
    refine AF8 4 (AF9 ?_)
    repeat' (first|(apply F3;first|(apply C8;refine A8 ?_)|(apply C9;refine D8 rfl rfl ?_)|(apply E5;refine F5 rfl rfl rfl ?_;first|(apply M0;refine L9 ⟨by omega,by omega⟩ ?_)|refine F7 rfl ?_)|(apply D6;refine D9 rfl rfl ?_)|(apply I6;refine I9 rfl rfl ?_;first|(apply Q9;refine Q8 rfl ?_)|(apply O1;refine O3 rfl ?_))|(apply U8;refine W9 (o8 rfl rfl rfl (by omega) (by omega)) rfl ?_)|(apply J5;refine s_call (Q3 rfl rfl) rfl ?_)|(apply I1;refine J9 rfl rfl rfl rfl ?_;first|(apply I7)|(apply I5)|(apply E9<;>intro hq<;>(try (exfalso;omega)))))|(apply D7)|(apply AN0)|(apply G9)|(apply H7)|(apply N8)|(apply F6)|(apply A7)|(refine G5 rfl ?_;first|(apply I5)|(apply E9<;>intro hq<;>(try (exfalso;omega))))|(apply D5)|(apply J7)|(apply J2)|(apply J8))
    all_goals (refine M3 (by (exact .inr rfl)) rfl N7 ?_;simp only[resV];(repeat' split)<;>(first|rfl|(exfalso;omega)))
/-- What Check answers. -/
def chkU (L:List Int):Int:=if L=[]∨partU L then 0 else 4
theorem Bu0 {L:List Int} (h:L≠[]):chkU L=if (longU L).2=false∧(longU L).1=L.length then 0 else 4:=by
  unfold chkU
  by_cases hp:partU L
  · rw[if_pos (.inr hp),if_pos (show (longU L).2=false∧(longU L).1=L.length from hp)]
  · rw[if_neg (fun h2=>h2.elim h hp),if_neg (show ¬((longU L).2=false∧(longU L).1=L.length) from hp)]
theorem A09 {s:ByteArray} (h:s.size=0):s=⟨#[]⟩:=AO7 (by
  have e:nums s=[]:=List.eq_nil_of_length_eq_zero (by rw[nums_length,h])
  rw[e]
  rfl)
theorem AU9 (G:Ctx) (H:List Ent) (s:ByteArray) (hm:s.size≤9223372036854775807):SV Tryz.prog G 27 [.string s] H (.int .i64 (chkU (nums s))):=by
  by_cases h0:s.size=0
  · have hs:=A09 h0
    subst hs
    refine M5 Tryz.func27 rfl rfl rfl rfl rfl ?_
    repeat' (first|(apply F3;first|(apply C8;refine A8 ?_)|(apply C9;refine D8 rfl rfl ?_)|(apply E5;refine F5 rfl rfl rfl ?_;refine AH9 ?_)|(apply D6;refine D9 rfl rfl ?_))|(apply D7)|(apply H7)|(apply A7)|(refine G5 rfl ?_;apply I7)|(apply D5)|(apply J4))
    all_goals (refine M3 (by (exact .inr rfl)) rfl N7 ?_;rfl)
  · have cL:=fun H=>Am5 G H s (by omega) hm
    have hl:=nums_length s
    have hne:¬s=⟨#[]⟩:=fun h=>h0 (by rw[h];rfl)
    have hnn:nums s≠[]:=fun h=>h0 (by rw[←hl,h];rfl)
    rw[Bu0 hnn,hl]
    clear hl hnn
    generalize longU (nums s)=r at *
    obtain⟨k,w⟩:=r
    cases w
    all_goals
      refine M5 Tryz.func27 rfl rfl rfl rfl rfl ?_
      repeat' (first|(apply F3;first|(apply C8;refine A8 ?_)|(apply C9;refine D8 rfl rfl ?_)|(apply E5;refine F5 rfl rfl rfl ?_;first|refine AH9 ?_ |(refine F7 rfl ?_))|(apply D6;refine D9 rfl rfl ?_)|(apply I6;refine I9 rfl rfl ?_;first|(apply Q9;refine Q8 rfl ?_)|(apply O1;refine O3 rfl ?_))|(apply Q6;refine U2 (K7 rfl rfl rfl) rfl ?_)|(apply H6;refine F9 rfl rfl rfl (cL _) rfl rfl ?_)|(apply J5;refine s_call (Q3 rfl rfl) rfl ?_)|(apply I1;refine J9 rfl rfl rfl rfl ?_;first|(apply I7)|(apply X9)))|(apply D7)|(apply G9)|(apply H7)|(apply A7)|(refine G5 rfl ?_;first|(apply I7)|(apply E9<;>intro hq<;>(try (exfalso;omega)))|(apply X6<;>intro hq<;>(try (exfalso;omega))))|(apply D5)|(apply J4))
      all_goals (first|(exact absurd (by assumption) hne)|(refine M3 (by (exact .inr rfl)) rfl N7 ?_;simp [resV];try omega))
end
section
set_option maxHeartbeats 1000000
attribute [local irreducible] SW SL SQ AtQ SV SC BB LD PK Yields SO SOT SOA SY
/-- The value of bytes, as if they were a rune's. -/
def valU (L:List Int):Int:=match L with
  | [a]=>a % 128
  | [a,b]=>64 * (a % 64)+b % 64
  | [a,b,c]=>64 * (64 * (a % 32)+b % 64)+c % 64
  | [a,b,c,d]=>64 * (64 * (64 * (a % 16)+b % 64)+c % 64)+d % 64
  | _=>0
end
section
set_option maxHeartbeats 1000000
attribute [local irreducible] SW SL SQ AtQ SV SC BB LD PK Yields SO SOT SOA SY
theorem BL9 (a:List Int):(strOfNums a).size=a.length:=by
  show (⟨(a.map fun n=>UInt8.ofNat n.toNat).toArray⟩:ByteArray).size=_
  simp [ByteArray.size]
theorem Bw2 (c:Int):fixR c=if isR c then c else 65533:=by
  by_cases h:isR c
  · rw[if_pos h]
    unfold isR at h
    unfold fixR
    rw[if_neg (by omega)]
  · rw[if_neg h]
    unfold isR at h
    unfold fixR
    rw[if_pos (by omega)]
theorem AJ4 (x:Int) (R:List Int):encL (x::R)=runeL (fixR x)++encL R:=by unfold encL;rw[List.flatMap_cons]
theorem As2 (G:Ctx) (H:List Ent) (xs:List Int) (a:Option Addr) (n c:Nat) {vs:List Value} [h1:RdC G H a vs] (hv:vs=ints xs) (hn:n=xs.length) (hm:xs.length≤20000000):SV Tryz.prog G 17 [.slice a n c] H (.string (strOfNums (encL xs))):=by
  subst hv
  exact AA4 (j6 Tryz.func17 rfl rfl) fun w hw=>Aj9 xs a n c w hn hm (h1.here w hw)
end
section
theorem Ay7 (s:ByteArray) (k:Nat) (h:k<s.size):(((s.get! k).toNat:Nat):Int)=(nums s).getD k 0:=by
  have h2:k<s.data.size:=h
  have e:s.get! k=s.data[k]:=by
    cases s with
    | mk d=>exact getElem!_pos d k h2
  rw[e]
  unfold nums
  rw[List.getD_eq_getElem?_getD,List.getElem?_map,Array.getElem?_toList,Array.getElem?_eq_getElem h2]
  rfl
theorem BO7 {L:List Int} (h:2≤L.length):valU (L.take 2)=64 * (L.getD 0 0 % 64)+L.getD 1 0 % 64:=by
  match L,h with
  | a::b::r,_=>rfl
theorem Bb4 {L:List Int} (h:3≤L.length):valU (L.take 3)=64 * (64 * (L.getD 0 0 % 32)+L.getD 1 0 % 64)+L.getD 2 0 % 64:=by
  match L,h with
  | a::b::c::r,_=>rfl
theorem BM9 {L:List Int} (h:4≤L.length):valU (L.take 4)=64 * (64 * (64 * (L.getD 0 0 % 16)+L.getD 1 0 % 64)+L.getD 2 0 % 64)+L.getD 3 0 % 64:=by
  match L,h with
  | a::b::c::d::r,_=>rfl
theorem BU4 (s:ByteArray) (h:(longU (nums s)).2=true):(((Lib.decodeGo s).1:Nat):Int)=valU ((nums s).take (longU (nums s)).1.toNat):=by
  have hl:=nums_length s
  have g:=Ay7 s
  have v2:=BO7 (L:=nums s)
  have v3:=Bb4 (L:=nums s)
  have v4:=BM9 (L:=nums s)
  unfold longU at h ⊢
  generalize hn0:needU ((nums s).getD 0 0)=nu at *
  have hw:=AC2 ((nums s).getD 0 0)
  rw[hn0] at hw
  have g0:=g 0
  have g1:=g 1
  have g2:=g 2
  have g3:=g 3
  rw[hl] at *
  by_cases h1:nu.1=0
  · rw[if_pos h1] at h;cases h
  · rw[if_neg h1] at h ⊢
    by_cases h2:¬(2≤s.size∧nu.2.1≤(nums s).getD 1 0∧(nums s).getD 1 0≤nu.2.2)
    · rw[if_pos h2] at h;cases h
    · rw[if_neg h2] at h ⊢
      have h2:=Classical.not_not.1 h2
      have hs0:¬s.size=0:=by omega
      unfold Lib.decodeGo
      rw[if_neg hs0]
      rw[Lib.decode_at,Nat.sub_zero]
      simp only[Nat.zero_add]
      generalize (s.get! 0).toNat=x0 at *
      generalize (s.get! 1).toNat=x1 at *
      generalize (s.get! 2).toNat=x2 at *
      generalize (s.get! 3).toNat=x3 at *
      by_cases h3:¬(2≤nu.1∧3≤s.size∧128≤(nums s).getD 2 0∧(nums s).getD 2 0≤191)
      · rw[if_pos h3] at h ⊢
        rw[show ((2:Int),decide (nu.1<2)).1.toNat=2 from rfl,v2 (by omega)]
        have h:=of_decide_eq_true h
        clear v2 v3 v4 g hn0
        generalize (nums s).getD 0 0=a at *
        generalize (nums s).getD 1 0=b at *
        generalize (nums s).getD 2 0=c at *
        generalize (nums s).getD 3 0=d at *
        have g0:=g0 (by omega)
        have g1:=g1 (by omega)
        have hw:194≤a∧a≤223∧nu=(1,128,191):=by
          rcases hw with ⟨h1,h2,hn⟩|⟨h1,hn⟩|⟨h1,hn⟩|⟨h1,h2,h3,hn⟩|⟨h1,hn⟩|⟨h1,hn⟩|⟨h1,h2,hn⟩|⟨h1,hn⟩
          · exact⟨h1,h2,hn⟩
          all_goals (subst hn;first|exact absurd rfl h1|(simp only at h h1;omega))
        obtain⟨hw1,hw2,hn⟩:=hw
        subst hn
        simp only at h2
        clear h3 h h1 g2 g3 hl
        unfold Lib.decodeN
        rw[if_neg (by omega),if_pos (by omega),if_pos (by omega)]
        simp only
        omega
      · rw[if_neg h3] at h ⊢
        have h3:=Classical.not_not.1 h3
        by_cases h4:¬(3≤nu.1∧4≤s.size∧128≤(nums s).getD 3 0∧(nums s).getD 3 0≤191)
        · rw[if_pos h4] at h ⊢
          rw[show ((3:Int),decide (nu.1<3)).1.toNat=3 from rfl,v3 (by omega)]
          have h:=of_decide_eq_true h
          clear v2 v3 v4 g hn0
          generalize (nums s).getD 0 0=a at *
          generalize (nums s).getD 1 0=b at *
          generalize (nums s).getD 2 0=c at *
          generalize (nums s).getD 3 0=d at *
          have g0:=g0 (by omega)
          have g1:=g1 (by omega)
          have g2:=g2 (by omega)
          have hw:224≤a∧a≤239∧128≤b∧b≤191∧(a=224→160≤b)∧(a=237→b≤159):=by
            rcases hw with ⟨h1,h2,hn⟩|⟨h1,hn⟩|⟨h1,hn⟩|⟨h1,h2,h3,hn⟩|⟨h1,hn⟩|⟨h1,hn⟩|⟨h1,h2,hn⟩|⟨h1,hn⟩
            all_goals (subst hn;first|exact absurd rfl h1|(simp only at h h1 h2 h3;omega))
          clear h4 h h1 g3 hl
          unfold Lib.decodeN
          rw[if_neg (by omega),if_neg (by omega),if_pos (by omega),if_pos (by omega)]
          simp only
          omega
        · rw[if_neg h4] at h ⊢
          have h4:=Classical.not_not.1 h4
          rw[show ((4:Int),true).1.toNat=4 from rfl,v4 (by omega)]
          clear v2 v3 v4 g hn0 h
          generalize (nums s).getD 0 0=a at *
          generalize (nums s).getD 1 0=b at *
          generalize (nums s).getD 2 0=c at *
          generalize (nums s).getD 3 0=d at *
          have g0:=g0 (by omega)
          have g1:=g1 (by omega)
          have g2:=g2 (by omega)
          have g3:=g3 (by omega)
          have hw:240≤a∧a≤244∧128≤b∧b≤191∧(a=240→144≤b)∧(a=244→b≤143):=by
            rcases hw with ⟨h1,h2,hn⟩|⟨h1,hn⟩|⟨h1,hn⟩|⟨h1,h2,h3,hn⟩|⟨h1,hn⟩|⟨h1,hn⟩|⟨h1,h2,hn⟩|⟨h1,hn⟩
            all_goals (subst hn;first|exact absurd rfl h1|(simp only at h1 h2 h3 h4;omega))
          clear h1 hl
          unfold Lib.decodeN
          rw[if_neg (by omega),if_neg (by omega),if_neg (by omega),if_pos (by omega),if_pos (by omega)]
          simp only
          omega
theorem CG2 {L:List Int} (h:1≤L.length):wfU (L.take 1)=decide (0≤L.getD 0 0∧L.getD 0 0<128):=by
  match L,h with
  | a::r,_=>rfl
theorem CE6 {L:List Int} (h:2≤L.length):wfU (L.take 2)=decide (194≤L.getD 0 0∧L.getD 0 0≤223∧128≤L.getD 1 0∧L.getD 1 0≤191):=by
  match L,h with
  | a::b::r,_=>rfl
theorem CI4 {L:List Int} (h:3≤L.length):wfU (L.take 3)=decide (224≤L.getD 0 0∧L.getD 0 0≤239∧128≤L.getD 1 0∧L.getD 1 0≤191∧128≤L.getD 2 0∧L.getD 2 0≤191∧(L.getD 0 0=224→160≤L.getD 1 0)∧(L.getD 0 0=237→L.getD 1 0≤159)):=by
  match L,h with
  | a::b::c::r,_=>rfl
theorem CI2 {L:List Int} (h:4≤L.length):wfU (L.take 4)=decide (240≤L.getD 0 0∧L.getD 0 0≤244∧128≤L.getD 1 0∧L.getD 1 0≤191∧128≤L.getD 2 0∧L.getD 2 0≤191∧128≤L.getD 3 0∧L.getD 3 0≤191∧(L.getD 0 0=240→144≤L.getD 1 0)∧(L.getD 0 0=244→L.getD 1 0≤143)):=by
  match L,h with
  | a::b::c::d::r,_=>rfl
theorem B30 (L:List Int) (h0:¬L.getD 0 0<128) (k:Nat) (h1:1≤k) (h2:k≤L.length) (h4:k≤4):wfU (L.take k)=((longU L).2&&decide ((k:Int)=(longU L).1)):=by
  have hk:k=1∨k=2∨k=3∨k=4:=by omega
  unfold longU
  generalize hn0:needU (L.getD 0 0)=nu
  have hw:=AC2 (L.getD 0 0)
  rw[hn0] at hw
  refine Bool.eq_iff_iff.2 ?_
  rcases hk with rfl|rfl|rfl|rfl
  · rw[CG2 h2,decide_eq_true_eq]
    generalize L.getD 0 0=a at *
    generalize L.getD 1 0=b at *
    generalize L.getD 2 0=c at *
    generalize L.getD 3 0=d at *
    rcases hw with ⟨h1,h2,hn⟩|⟨h1,hn⟩|⟨h1,hn⟩|⟨h1,h2,h3,hn⟩|⟨h1,hn⟩|⟨h1,hn⟩|⟨h1,h2,hn⟩|⟨h1,hn⟩<;>subst hn<;>simp only at * <;>(repeat' split)<;>(simp;omega)
  · rw[CE6 h2,decide_eq_true_eq]
    generalize L.getD 0 0=a at *
    generalize L.getD 1 0=b at *
    generalize L.getD 2 0=c at *
    generalize L.getD 3 0=d at *
    rcases hw with ⟨h1,h2,hn⟩|⟨h1,hn⟩|⟨h1,hn⟩|⟨h1,h2,h3,hn⟩|⟨h1,hn⟩|⟨h1,hn⟩|⟨h1,h2,hn⟩|⟨h1,hn⟩<;>subst hn<;>simp only at * <;>(repeat' split)<;>(first|(simp;omega)|(simp_all;done))
  · rw[CI4 h2,decide_eq_true_eq]
    generalize L.getD 0 0=a at *
    generalize L.getD 1 0=b at *
    generalize L.getD 2 0=c at *
    generalize L.getD 3 0=d at *
    rcases hw with ⟨h1,h2,hn⟩|⟨h1,hn⟩|⟨h1,hn⟩|⟨h1,h2,h3,hn⟩|⟨h1,hn⟩|⟨h1,hn⟩|⟨h1,h2,hn⟩|⟨h1,hn⟩<;>subst hn<;>simp only at * <;>(repeat' split)<;>(simp;omega)
  · rw[CI2 h2,decide_eq_true_eq]
    generalize L.getD 0 0=a at *
    generalize L.getD 1 0=b at *
    generalize L.getD 2 0=c at *
    generalize L.getD 3 0=d at *
    rcases hw with ⟨h1,h2,hn⟩|⟨h1,hn⟩|⟨h1,hn⟩|⟨h1,h2,h3,hn⟩|⟨h1,hn⟩|⟨h1,hn⟩|⟨h1,h2,hn⟩|⟨h1,hn⟩<;>subst hn<;>simp only at * <;>(repeat' split)<;>(simp;omega)
theorem An7 (L:List Int) (h:L≠[]):0≤(longU L).1∧(longU L).1≤4∧(longU L).1≤L.length∧((longU L).2=true→2≤(longU L).1)∧((longU L).2=false→(longU L).1≤3):=by
  have hl:1≤L.length:=by cases L;exact absurd rfl h;simp
  unfold longU
  split
  · simp
  · split
    · simp;omega
    · rename_i _ h2
      have h2:=Classical.not_not.1 h2
      split
      · simp;omega
      · rename_i h3
        have h3:=Classical.not_not.1 h3
        split
        · simp;omega
        · rename_i h4
          have h4:=Classical.not_not.1 h4
          simp;omega
end
section
set_option maxHeartbeats 1000000
/-- What the front of a text says: a number and how many bytes; nothing: more is wanted. -/
def stepU (L:List Int):Option (Int×Nat):=
  if L.getD 0 0<128 then some (L.getD 0 0,1)
  else if (longU L).2=true then some (valU (L.take (longU L).1.toNat),(longU L).1.toNat)
  else if 0<(longU L).1∧(longU L).1=L.length then none
  else some (65533,(max (longU L).1 1).toNat)
def runU:Nat→List Int→List Int×List Int
  | 0,l=>(l,[])
  | m+1,l=>if l=[] then ([],[]) else match stepU l with
    | none=>(l,[])
    | some p=>((runU m (l.drop p.2)).1,p.1::(runU m (l.drop p.2)).2)
theorem Af1 (m:Nat):runU m []=([],[]):=by cases m<;>simp [runU]
theorem Az6 (m:Nat) {l:List Int} (h:l≠[]) (h2:stepU l=none):runU m l=(l,[]):=by
  cases m with
  | zero=>rfl
  | succ m=>rw[runU,if_neg h,h2]
theorem AZ5 {m:Nat} {l:List Int} {e:Int} {n:Nat} (hm:0<m) (h:l≠[]) (h2:stepU l=some (e,n)):runU m l=((runU (m-1) (l.drop n)).1,e::(runU (m-1) (l.drop n)).2):=by
  obtain⟨k,rfl⟩:∃k,m=k+1:=⟨m-1,by omega⟩
  rw[runU,if_neg h,h2];rfl
def feedU (p s:ByteArray):ByteArray×List Int×Int:=
  if chkU (nums p)≠0 then (⟨#[]⟩,[],chkU (nums p)) else (strOfNums (runU (p++s).size (nums (p++s))).1,(runU (p++s).size (nums (p++s))).2,0)
theorem At6 (r:ByteArray) (k:Nat):nums (r.extract k r.size)=(nums r).drop k:=by
  rw[AT3,←nums_length,List.take_of_length_le (by simp)]
theorem BP8 (L:List Int) (hb:0≤L.getD 0 0) (h0:¬L.getD 0 0<128) (h:(longU L).2=true) (hl:L≠[]):0≤valU (L.take (longU L).1.toNat)∧valU (L.take (longU L).1.toNat)≤20000000:=by
  obtain⟨h1,h2,h3,h4,-⟩:=An7 L hl
  have h4:=h4 h
  have hk:(longU L).1=2∨(longU L).1=3∨(longU L).1=4:=by omega
  rcases hk with hk|hk|hk
  · rw[hk] at h3 ⊢;rw[show (2:Int).toNat=2 from rfl,BO7 (by omega)];omega
  · rw[hk] at h3 ⊢;rw[show (3:Int).toNat=3 from rfl,Bb4 (by omega)];omega
  · rw[hk] at h3 ⊢;rw[show (4:Int).toNat=4 from rfl,BM9 (by omega)];omega
attribute [local irreducible] SW SL SQ AtQ SV SC BB LD PK Yields SO SOT SOA SY
theorem CC6 (G:Ctx) (H:List Ent) (hT:∀w,Holds G H w→Lib.Utf8Tabs 0 1 w) (s:ByteArray):SV Tryz.prog G 29 [.string s] H (.tuple #[.int .i32 (Lib.decodeGo s).1,.int .i64 (Lib.decodeGo s).2]):=
  AA4 (j6 Tryz.func29 rfl rfl) fun w hw=>Tryz.utf8_DecodeRuneInString s w (hT w hw)
theorem Ao3 (G:Ctx) (H:List Ent) (hT:∀H w,Holds G H w→Lib.Utf8Tabs 0 1 w) (p s:ByteArray) (hp:p.size≤2000000) (hs:s.size≤2000000):SC Tryz.prog G 12 [.string p,.string s] H (fun v H'=>∃a' c',v= .tuple #[.string (feedU p s).1,.slice a' (feedU p s).2.1.length c',.int .i64 (feedU p s).2.2]∧H'= .own 3 1 a' (feedU p s).2.1.length c' (ints (feedU p s).2.1)::H):=by
  have cC:=fun H=>AU9 G H p (by omega)
  have cD:=fun H r=>CC6 G H (hT H) r
  have cL:=fun H r h hm=>Am5 G H r h hm
  by_cases hc:chkU (nums p)≠0
  · have e:feedU p s=(⟨#[]⟩,[],chkU (nums p)):=if_pos hc
    rw[e]
    generalize chkU (nums p)=q at *
    clear e
    refine J3 Tryz.func12 rfl rfl rfl rfl rfl ?_
    repeat' (first|(apply F3;first|(apply C8;refine A8 ?_)|(apply C9;refine D8 rfl rfl ?_)|(apply E5;refine F5 rfl rfl rfl ?_;refine F7 rfl ?_)|(apply D6;refine D9 rfl rfl ?_)|(apply H6;refine F9 rfl rfl rfl (cC _) rfl rfl ?_))|(apply D7)|(apply H7)|(apply A7)|(refine G5 rfl ?_;apply X6<;>intro hq<;>(try (exfalso;omega)))|(apply D5)|(apply J4))
    exact M9 (.own 3 1 none 0 0 []::H) (.inr rfl) rfl (fun _ hw=>hw.nilrow _ _) ⟨_,_,rfl,rfl⟩
  · have e:feedU p s=(strOfNums (runU (p++s).size (nums (p++s))).1,(runU (p++s).size (nums (p++s))).2,0):=if_neg hc
    rw[e]
    clear e
    have hc:=Classical.not_not.1 hc
    rw[hc] at cC
    have hcat:p.size+s.size≤9223372036854775807:=by omega
    obtain⟨t,ht⟩:∃t,p++s=t:=⟨_,rfl⟩
    have htz:t.size≤4000000:=by rw[←ht,ByteArray.size_append];omega
    rw[ht]
    refine J3 Tryz.func12 rfl rfl rfl rfl rfl ?_
    repeat' (first|(apply F3;first|(apply C8;refine A8 ?_)|(apply C9;refine D8 rfl rfl ?_)|(apply E5;refine F5 rfl rfl rfl ?_;first|(refine Ap5 ht hcat ?_)|(refine F7 rfl ?_))|(apply D6;refine D9 rfl rfl ?_)|(apply H6;refine F9 rfl rfl rfl (cC _) rfl rfl ?_))|(apply D7)|(apply G9)|(apply F6)|(apply A7)|(refine G5 rfl ?_;apply I5)|(apply D5))
    refine R9 (α:=Nat×ByteArray×List Int×Option Addr×Nat) (fun g=>[(1,.string g.2.1),(8,.slice g.2.2.2.1 g.2.2.1.length g.2.2.2.2)]) (fun g=> .own 3 1 g.2.2.2.1 g.2.2.1.length g.2.2.2.2 (ints g.2.2.1)::H)
      (fun g=>g.2.1.size≤g.1∧g.2.2.1.length+g.2.1.size≤t.size∧runU t.size (nums t)=((runU g.1 (nums g.2.1)).1,g.2.2.1++(runU g.1 (nums g.2.1)).2)) (fun g=>g.2.1.size) (t.size,t,[],none,0) ⟨Nat.le_refl _,by simp,rfl⟩ (by repeat (first|exact Le.nil _|refine Le.cons (by (rfl)) ?_)) (fun _ hw=>(hw.nilrow _ _).subs (by repeat (first|refine Subs.cons (by repeat constructor) ?_ |exact Subs.sub N7))) ?_
    rintro ⟨m,r,X,ao,co⟩ ⟨hr,hx,hm⟩
    dsimp only at hr hx hm ⊢
    by_cases hr0:r=⟨#[]⟩
    · subst hr0
      have hv:runU t.size (nums t)=([],X):=by rw[hm,show nums ⟨#[]⟩=[] from rfl,Af1];simp
      rw[hv]
      clear hm hv
      repeat' (first|(apply F3;first|(apply C8;refine A8 ?_)|(apply C9;refine D8 rfl rfl ?_)|(apply E5;refine F5 rfl rfl rfl ?_;refine AI0 ?_)|(apply D6;refine D9 rfl rfl ?_))|(apply D7)|(apply H7)|(apply N8)|(apply A7)|(refine G5 rfl ?_;apply I5)|(apply D5)|(apply J7)|(apply J8))
      all_goals (skip)
      exact AG7 _ (.inr rfl) rfl (List.Sublist.refl _) ⟨_,_,rfl,rfl⟩
    · have hl:=nums_length r
      have hz:0<r.size:=Nat.pos_of_ne_zero fun e=>hr0 (A09 e)
      have hrn:nums r≠[]:=fun e=>by rw[e] at hl;simp at hl;omega
      have hb0:0≤(nums r).getD 0 0∧(nums r).getD 0 0≤255:=by
        cases hq:nums r with
        | nil=>exact absurd hq hrn
        | cons x t=>exact AD5 r x (by rw[hq];exact List.mem_cons_self)
      obtain⟨x,hx1⟩:∃x,(nums r).getD 0 0=x:=⟨_,rfl⟩
      have hx0:(nums r).getD (0:Int).toNat 0=x:=hx1
      by_cases hlow:(nums r).getD 0 0<128
      · have hst:stepU (nums r)=some ((nums r).getD 0 0,1):=if_pos hlow
        rw[AZ5 (by omega) hrn hst] at hm
        obtain⟨r1,hr1⟩:∃r1,r.extract (1:Int).toNat (r.size:Int).toNat=r1:=⟨_,rfl⟩
        have hn1:nums r1=(nums r).drop 1:=by rw[←hr1];exact At6 r 1
        have hl1:r1.size=r.size-1:=by rw[←nums_length,hn1,List.length_drop,hl]
        rw[←hn1] at hm
        rw[hx1] at hb0 hlow hm
        have Hm:=Lib.hid hm
        clear hm hst
        repeat' (first|(apply F3;first|(apply C8;refine A8 ?_)|(apply C9;refine D8 rfl rfl ?_)|(apply E5;refine F5 rfl rfl rfl ?_;first|(refine AI0 ?_)|(refine F7 rfl ?_))|(apply D6;refine D9 rfl rfl ?_)|(apply U8;refine W9 (Z5 hx0 rfl rfl rfl (by omega) (by omega)) rfl ?_))|(apply D7)|(apply G9)|(apply H7)|(apply N8)|(apply F6)|((fail_if_success (refine K3 (id:=8) ?_));apply A7)|(refine G5 rfl ?_;first|(apply E9<;>intro hq<;>(try (exfalso;omega)))|(apply AF0<;>intro hq))|(apply D5)|(apply J7)|(apply J8))
        all_goals (first|(exact absurd (of_decide_eq_true (by assumption)) hr0)|skip)
        refine V3 H I8 ?_
        repeat' (first|(apply F3;first|(apply C8;refine A8 ?_)|(apply U8;refine W9 (Z5 hx0 rfl rfl rfl (by omega) (by omega)) rfl ?_)|(apply J5;refine R6 rfl rfl rfl rfl (by (rfl)) (by (rfl)) (by omega) rfl rfl (fun _ _=>?_))|(apply V8;refine M7 rfl rfl rfl rfl rfl rfl rfl rfl rfl rfl (fun _=>?_)))|(apply U4;refine R5 (k:=0) I8 ?_)|(apply V6;first|(refine O9 rfl ?_)|(refine P8 rfl rfl rfl rfl (by kernel_rfl) (by decide+kernel) (by decide+kernel) ?_;first|(apply U5;refine I4 (V4 rfl rfl) ?_)|(apply Z0;refine I4 (X7 rfl rfl) ?_)|(apply Aq8;refine I4 (AA5 (k:= .i64) rfl rfl ⟨by omega,by omega⟩) ?_)|(apply Ai1;refine I4 (Al6 rfl rfl rfl rfl (by omega) (by omega) (by omega)) ?_))|(refine P9 rfl ?_)|(refine R4 (by decide+kernel) ?_)|(refine S9 (by kernel_rfl) ?_))|(apply X4;first|(refine T9 rfl)|(refine U7 (by decide+kernel) ?_)|(refine U0 rfl ?_ ?_))|(apply N8)|(apply D5)|(apply J7)|(apply J8))
        rename_i bx ax cx
        refine J6 (m-1,r1,X++[x],ax,cx) ⟨⟨by dsimp only;omega,by simp;omega,by dsimp only;rw[Hm.out];simp⟩,by dsimp only;omega⟩ ?_ ?_
        · dsimp only
          rw[show (X++[x]).length=X.length+1 from by simp,←hr1]
          exact(by repeat (first|exact Le.nil _|refine Le.cons (by (rfl)) ?_))
        · dsimp only
          rw[show (X++[x]).length=X.length+1 from by simp,show ints (X++[x])=ints X++[.int .i64 x] from by simp [ints]]
          exact I8
      · have c1:=fun H=>cL H r hz (by omega)
        obtain⟨k0,k4,kl,kw,kn⟩:=An7 (nums r) hrn
        rw[hl] at kl
        obtain⟨k,hk⟩:∃k,(longU (nums r)).1=k:=⟨_,rfl⟩
        rw[hk] at k0 k4 kl kw kn
        have hmx:max k 1=if k<1 then 1 else k:=by split<;>omega
        have hexp:∀e n,stepU (nums r)=some (e,n)→0<n→n≤r.size→∃r1,r.extract n r.size=r1∧r1.size=r.size-n∧runU t.size (nums t)=((runU (m-1) (nums r1)).1,(X++[e])++(runU (m-1) (nums r1)).2):=fun e n h h1 h2=>by
          have hn1:=At6 r n
          refine⟨_,rfl,by rw[←nums_length,hn1,List.length_drop,hl],?_⟩
          rw[hm,AZ5 (by omega) hrn h,hn1]
          simp
        by_cases hw:(longU (nums r)).2=true
        · have hst:stepU (nums r)=some (valU ((nums r).take k.toNat),k.toNat):=by unfold stepU;rw[if_neg hlow,if_pos hw,hk]
          have k2:=kw hw
          obtain⟨r1,hr1,hl1,hm1⟩:=hexp _ _ hst (by omega) (by omega)
          have hv:=BP8 (nums r) hb0.1 hlow hw hrn
          have c2:=fun H=>cD H r
          rw[BU4 r hw] at c2
          rw[hk] at c1 c2 hv
          rw[hw] at c1
          generalize valU ((nums r).take k.toNat)=V at *
          rw[hx1] at hlow hb0
          have hr1':r.extract (max k 1).toNat (r.size:Int).toNat=r1:=by rw[show (max k 1).toNat=k.toNat from by omega];exact hr1
          have Hm:=Lib.hid hm1
          clear hm hst hexp kw kn hw hm1
          repeat' (first|(apply F3;first|(apply C8;refine A8 ?_)|(apply C9;refine D8 rfl rfl ?_)|(apply E5;refine F5 rfl rfl rfl ?_;first|(refine AI0 ?_)|(refine F7 rfl ?_))|(apply D6;refine D9 rfl rfl ?_)|(apply Q6;refine U2 (K7 rfl rfl rfl) rfl ?_)|(apply p8;refine x9 (AA5 (k:= .i64) rfl rfl ⟨by omega,by omega⟩) rfl ?_)|(apply U8;refine W9 (Z5 hx0 rfl rfl rfl (by omega) (by omega)) rfl ?_)|(apply H6;first|refine F9 rfl rfl rfl (c1 _) rfl rfl ?_ |refine F9 rfl rfl rfl (c2 _) rfl rfl ?_)|(apply J5;first|(refine s_call (AQ3 rfl rfl rfl) rfl ?_)|refine R6 rfl rfl rfl rfl (by (rfl)) (by (rfl)) (by omega) rfl rfl (fun _ _=>?_))|(apply V8;refine M7 rfl rfl rfl rfl rfl rfl rfl rfl rfl rfl (fun _=>?_))|(apply o7;refine AM2 (AG0 hr1' rfl rfl rfl rfl (by omega) (by omega) (by omega)) rfl ?_))|(apply D7)|(apply G9)|(apply H7)|(apply N8)|(apply F6)|(apply A7)|(refine G5 rfl ?_;first|(apply I7)|(apply E9<;>intro hq<;>(try (exfalso;omega)))|(apply AF0<;>intro hq))|(apply D5)|(apply J7)|(apply J2)|(apply J8))
          all_goals (first|(exact absurd (of_decide_eq_true (by assumption)) hr0)|skip)
          rename_i bx ax cx
          refine J6 (m-1,r1,X++[V],ax,cx) ⟨⟨by dsimp only;omega,by simp;omega,Hm.out⟩,by dsimp only;omega⟩ ?_ ?_
          · dsimp only
            rw[show (X++[V]).length=X.length+1 from by simp]
            exact(by repeat (first|exact Le.nil _|refine Le.cons (by (rfl)) ?_))
          · dsimp only
            rw[show (X++[V]).length=X.length+1 from by simp,show ints (X++[V])=ints X++[.int .i64 V] from by simp [ints]]
            exact I8
        · have hw:=Bool.eq_false_iff.2 hw
          have kn:=kn hw
          rw[hk] at c1
          rw[hw] at c1
          by_cases hend:0<k∧k=r.size
          · have hst:stepU (nums r)=none:=by unfold stepU;rw[if_neg hlow,if_neg (by rw[hw];decide),hk,hl,if_pos hend]
            have hv:runU t.size (nums t)=(nums r,X):=by rw[hm,Az6 _ hrn hst];simp
            rw[hv]
            dsimp only
            rw[Z6]
            rw[hx1] at hlow hb0
            obtain⟨he1,he2⟩:=hend
            clear hm hst hexp kw kn hw hv
            repeat' (first|(apply F3;first|(apply C8;refine A8 ?_)|(apply C9;refine D8 rfl rfl ?_)|(apply E5;refine F5 rfl rfl rfl ?_;first|(refine AI0 ?_)|(refine F7 rfl ?_))|(apply D6;refine D9 rfl rfl ?_)|(apply I6;refine I9 rfl rfl ?_;apply Q9;refine Q8 rfl ?_)|(apply Q6;refine U2 (K7 rfl rfl rfl) rfl ?_)|(apply U8;refine W9 (Z5 hx0 rfl rfl rfl (by omega) (by omega)) rfl ?_)|(apply H6;refine F9 rfl rfl rfl (c1 _) rfl rfl ?_)|(apply J5;refine s_call (Q3 rfl rfl) rfl ?_)|(apply I1;refine J9 rfl rfl rfl rfl ?_;first|(apply I7)|(apply E9<;>intro hq<;>(try (exfalso;omega)))))|(apply D7)|(apply G9)|(apply H7)|(apply N8)|(apply F6)|(apply A7)|(refine G5 rfl ?_;first|(apply I5)|(apply E9<;>intro hq<;>(try (exfalso;omega)))|(apply AF0<;>intro hq))|(apply D5)|(apply J4)|(apply J7)|(apply U1)|(apply J8))
            all_goals (first|(exact absurd (of_decide_eq_true (by assumption)) hr0)|skip)
            exact AG7 _ (.inr rfl) rfl (List.Sublist.refl _) ⟨_,_,rfl,rfl⟩
          · have hst:stepU (nums r)=some (65533,(max k 1).toNat):=by unfold stepU;rw[if_neg hlow,if_neg (by rw[hw];decide),hk,hl,if_neg hend]
            obtain⟨r1,hr1',hl1,hm1⟩:=hexp _ _ hst (by omega) (by omega)
            have hr1':r.extract (max k 1).toNat (r.size:Int).toNat=r1:=hr1'
            rw[hx1] at hlow hb0
            have Hm:=Lib.hid hm1
            clear hm hst hexp kw kn hw hm1
            by_cases hk0:0<k
            · have hk1:¬k=r.size:=fun h=>hend ⟨hk0,h⟩
              clear hend
              repeat' (first|(apply F3;first|(apply C8;refine A8 ?_)|(apply C9;refine D8 rfl rfl ?_)|(apply E5;refine F5 rfl rfl rfl ?_;first|(refine AI0 ?_)|(refine F7 rfl ?_))|(apply D6;refine D9 rfl rfl ?_)|(apply I6;refine I9 rfl rfl ?_;apply Q9;refine Q8 rfl ?_)|(apply Q6;refine U2 (K7 rfl rfl rfl) rfl ?_)|(apply U8;refine W9 (Z5 hx0 rfl rfl rfl (by omega) (by omega)) rfl ?_)|(apply H6;refine F9 rfl rfl rfl (c1 _) rfl rfl ?_)|(apply J5;first|(refine s_call (AQ3 rfl rfl rfl) rfl ?_)|refine s_call (Q3 rfl rfl) rfl ?_ |refine R6 rfl rfl rfl rfl (by (rfl)) (by (rfl)) (by omega) rfl rfl (fun _ _=>?_))|(apply V8;refine M7 rfl rfl rfl rfl rfl rfl rfl rfl rfl rfl (fun _=>?_))|(apply o7;refine AM2 (AG0 hr1' rfl rfl rfl rfl (by omega) (by omega) (by omega)) rfl ?_)|(apply I1;refine J9 rfl rfl rfl rfl ?_;first|(apply I7)|(apply E9<;>intro hq<;>(try (exfalso;omega)))))|(apply D7)|(apply G9)|(apply H7)|(apply N8)|(apply F6)|(apply A7)|(refine G5 rfl ?_;first|(apply I5)|(apply E9<;>intro hq<;>(try (exfalso;omega)))|(apply AF0<;>intro hq))|(apply D5)|(apply J7)|(apply J2)|(apply J8))
              all_goals (first|(exact absurd (of_decide_eq_true (by assumption)) hr0)|skip)
              rename_i bx ax cx
              refine J6 (m-1,r1,X++[65533],ax,cx) ⟨⟨by dsimp only;omega,by simp;omega,Hm.out⟩,by dsimp only;omega⟩ ?_ ?_
              · dsimp only
                rw[show (X++[(65533:Int)]).length=X.length+1 from by simp]
                exact(by repeat (first|exact Le.nil _|refine Le.cons (by (rfl)) ?_))
              · dsimp only
                rw[show (X++[(65533:Int)]).length=X.length+1 from by simp,show ints (X++[(65533:Int)])=ints X++[.int .i64 65533] from by simp [ints]]
                exact I8
            · clear hend
              repeat' (first|(apply F3;first|(apply C8;refine A8 ?_)|(apply C9;refine D8 rfl rfl ?_)|(apply E5;refine F5 rfl rfl rfl ?_;first|(refine AI0 ?_)|(refine F7 rfl ?_))|(apply D6;refine D9 rfl rfl ?_)|(apply I6;refine I9 rfl rfl ?_;apply O1;refine O3 rfl ?_)|(apply Q6;refine U2 (K7 rfl rfl rfl) rfl ?_)|(apply U8;refine W9 (Z5 hx0 rfl rfl rfl (by omega) (by omega)) rfl ?_)|(apply H6;refine F9 rfl rfl rfl (c1 _) rfl rfl ?_)|(apply J5;first|(refine s_call (AQ3 rfl rfl rfl) rfl ?_)|refine R6 rfl rfl rfl rfl (by (rfl)) (by (rfl)) (by omega) rfl rfl (fun _ _=>?_))|(apply V8;refine M7 rfl rfl rfl rfl rfl rfl rfl rfl rfl rfl (fun _=>?_))|(apply o7;refine AM2 (AG0 hr1' rfl rfl rfl rfl (by omega) (by omega) (by omega)) rfl ?_)|(apply I1;refine J9 rfl rfl rfl rfl ?_;first|(apply I5)|(apply E9<;>intro hq<;>(try (exfalso;omega)))))|(apply D7)|(apply G9)|(apply H7)|(apply N8)|(apply F6)|(apply A7)|(refine G5 rfl ?_;first|(apply I5)|(apply E9<;>intro hq<;>(try (exfalso;omega)))|(apply AF0<;>intro hq))|(apply D5)|(apply J7)|(apply J2)|(apply J8))
              all_goals (first|(exact absurd (of_decide_eq_true (by assumption)) hr0)|skip)
              rename_i bx ax cx
              refine J6 (m-1,r1,X++[65533],ax,cx) ⟨⟨by dsimp only;omega,by simp;omega,Hm.out⟩,by dsimp only;omega⟩ ?_ ?_
              · dsimp only
                rw[show (X++[(65533:Int)]).length=X.length+1 from by simp]
                exact(by repeat (first|exact Le.nil _|refine Le.cons (by (rfl)) ?_))
              · dsimp only
                rw[show (X++[(65533:Int)]).length=X.length+1 from by simp,show ints (X++[(65533:Int)])=ints X++[.int .i64 65533] from by simp [ints]]
                exact I8
end
end Go.Proofs.YtmmnimagbnlcmaaGreatDoor
section
namespace Go.Fw
open Go Go.RowKit Go.Sx
/-- Where a text's end of noughts begins. -/
def trN (d:ByteArray):Nat→Nat
  | 0=>0
  | m+1=>if (nums d).getD m 0=0 then trN d m else m+1
end Go.Fw
end
namespace Go.Proofs.YtmmnimagbnlcmaaGreatDoor
open Go Go.RowKit Go.Fw Go.Sx
set_option maxRecDepth 100000
section
set_option maxHeartbeats 1000000
attribute [local irreducible] SW SL SQ AtQ SV SC BB LD PK Yields SO SOT SOA SY
theorem Ab7 (G:Ctx) (H:List Ent) (s0:ByteArray) (q:Bool):SV Tryz.prog G 73 [.agg #[.string s0,.bool q]] H (.int .i64 (if 1024≤s0.size then 2 else 0)):=by
  refine M5 Tryz.func73 rfl rfl rfl rfl rfl ?_
  repeat' (first|(apply F3;first|(apply C8;refine A8 ?_)|(apply E5;refine F5 rfl rfl rfl ?_;refine F7 rfl ?_)|(apply F4;refine F8 rfl rfl ?_;refine G6 rfl ?_)|(apply D6;refine D9 rfl rfl ?_)|(apply G7;refine G8 (E8 rfl rfl) rfl ?_)|(apply J5;refine s_call (Q3 rfl rfl) rfl ?_)|(apply K9;refine O5 rfl rfl rfl rfl rfl rfl (fun _=>?_)))|(apply D7)|(apply G9)|(apply H7)|(apply A7)|(refine G5 rfl ?_;apply E9<;>intro hq<;>(try (exfalso;omega)))|(apply D5)|(apply J4))
  · refine M3 (by (exact .inr rfl)) rfl N7 ?_
    rw[if_pos (by omega)]
    rfl
  · refine M3 (by (exact .inr rfl)) rfl N7 ?_
    rw[if_neg (by omega)]
    rfl
end
end Go.Proofs.YtmmnimagbnlcmaaGreatDoor
section
namespace Go.Fw
open Go Go.RowKit Go.Sx
abbrev Tk:=Int×Int×Int×ByteArray
def tokC (t:Tk):List Value:=[.int .i64 t.1,.int .i64 t.2.1,.int .i64 t.2.2.1,.string t.2.2.2]
instance :En tokC 4:=⟨fun _=>rfl⟩
def toks (L:List Tk):List Value:=L.flatMap tokC
theorem At8 (L:List Tk) (x:Tk):toks (L++[x])=toks L++tokC x:=BG3 L x
/-- Each 255 twice. -/
def B88 (l:List UInt8):List UInt8:=l.flatMap fun b=>if b=255 then [255,255] else [b]
def escS (d:ByteArray):ByteArray:=⟨(B88 d.data.toList).toArray⟩
end Go.Fw
end
section
namespace Go.Fw
open Go Go.Lib
theorem Ac5 (c:UInt8) (new:List UInt8):∀s:List UInt8,replaceK [c] new (s.count c) s=s.flatMap (fun b=>if b=c then new else [b])
  | []=>rfl
  | b::l=>by
    have ih:=Ac5 c new l
    rw[List.flatMap_cons]
    by_cases h:b=c
    · subst h
      have hi:index (b::l) [b]=((0:Nat):Int):=by unfold index;simp
      rw[List.count_cons_self,replaceK_hit _ _ _ _ _ hi,if_pos rfl,←ih]
      simp
    · rw[List.count_cons_of_ne h,if_neg h]
      cases hc:l.count c with
      | zero=>
        rw[hc] at ih
        rw[←ih]
        rfl
      | succ k=>
        rw[hc] at ih
        obtain⟨i,hi⟩:=index_of_count (s:=l) (old:=[c]) (by rw[count_one,hc];omega)
        have hi2:index (b::l) [c]=((i+1:Nat):Int):=by
          unfold index
          have hp:([c].isPrefixOf (b::l))=false:=by simp only[List.isPrefixOf,Bool.and_true];exact beq_eq_false_iff_ne.2 fun e=>h e.symm
          rw[hp,hi]
          simp
        rw[replaceK_hit _ _ _ _ _ hi2,←ih,replaceK_hit _ _ _ _ _ hi]
        simp
theorem Ao5 (c:UInt8) (new s:List UInt8) (h:[c]≠new):replaceAll s [c] new=s.flatMap (fun b=>if b=c then new else [b]):=by
  unfold replaceAll replace replaceNum
  rw[if_neg (by simpa using h),if_pos (.inl (by decide)),count_one,Ac5]
/-- A byte in the network's form. -/
def outB (b:UInt8):List UInt8:=if b=10 then [13,10] else if b=13 then [13,0] else [b]
/-- The bytes that came in: what is pending, and what is told. -/
def mIn:Bool→List UInt8→Bool×List UInt8
  | cr,[]=>(cr,[])
  | true,c::l=>if c=10 then ((mIn false l).1,10::(mIn false l).2) else if c=0 then ((mIn false l).1,13::(mIn false l).2) else if c=13 then ((mIn true l).1,13::(mIn true l).2) else ((mIn false l).1,13::c::(mIn false l).2)
  | false,c::l=>if c=13 then mIn true l else ((mIn false l).1,c::(mIn false l).2)
theorem BT0:∀s:List UInt8,¬(13:UInt8)∈s→mIn false s=(false,s)
  | [],_=>rfl
  | c::l,h=>by
    have h1:¬c=13:=fun e=>h (by rw[e];exact List.mem_cons_self)
    have h2:=BT0 l fun e=>h (List.mem_cons_of_mem _ e)
    unfold mIn
    rw[if_neg h1,h2]
end Go.Fw
end
section
namespace Go.Fw
open Go Go.RowKit Go.Sx
/-- A receiver: mode, command, option, whether the words are too many, the words; the data, the tokens. -/
structure Rc where
  mode:Int
  cmd:Int
  opt:Int
  over:Bool
  buf:List Int
  data:List Int
  out:List Tk
abbrev noB:ByteArray:=⟨#[]⟩
def dtok (l:List Int):Tk:=(1,0,0,strOfNums l)
namespace Rc
def flush (r:Rc):Rc:=if r.data=[] then r else {r with data:=[],out:=r.out++[dtok r.data]}
def tok (r:Rc) (t:Tk):Rc:={r.flush with out:=r.flush.out++[t]}
def sub (r:Rc) (c:Int):Rc:=if r.buf.length=4096 then {r with buf:=[],over:=true} else if r.over=true then r else {r with buf:=r.buf++[c]}
def finT (r:Rc) (c:Int):Tk:=if c=240 then (if r.over=true then (5,250,r.opt,noB) else (4,0,r.opt,strOfNums r.buf)) else (5,c,r.opt,noB)
def fin (r:Rc) (c:Int):Rc:={r.tok (r.finT c) with mode:=0,cmd:=0,opt:=0,over:=false,buf:=[]}
def com (r:Rc) (c:Int):Rc:=
  if c=255 then {r with mode:=0,data:=r.data++[c]} else if 251≤c then {r with mode:=2,cmd:=c} else if c=250 then {r with mode:=3}
  else if 240≤c then {r.tok (2,c,0,noB) with mode:=0} else {r.tok (5,c,0,noB) with mode:=0}
def take (r:Rc) (c:Int):Rc:=
  if r.mode=0 then (if c=255 then {r with mode:=1} else {r with data:=r.data++[c]})
  else if r.mode=1 then r.com c
  else if r.mode=2 then {r.tok (3,r.cmd,c,noB) with mode:=0,cmd:=0}
  else if r.mode=3 then {r with mode:=4,opt:=c}
  else if r.mode=4 then (if c=255 then {r with mode:=5} else r.sub c)
  else if c=255 then ({r with mode:=4}:Rc).sub c else r.fin c
/-- Within words: those so far. -/
def words (r:Rc) (m o:Int) (acc:List Int):Rc:={r with mode:=m,opt:=o,over:=decide (4096<acc.length),buf:=if 4096<acc.length then [] else acc}
theorem t0 {r:Rc} (h:r.mode=0) (c:Int):r.take c=if c=255 then {r with mode:=1} else {r with data:=r.data++[c]}:=by unfold take;rw[if_pos h]
theorem t1 {r:Rc} (h:r.mode=1) (c:Int):r.take c=r.com c:=by unfold take;rw[if_neg (by rw[h];decide),if_pos h]
theorem t2 {r:Rc} (h:r.mode=2) (c:Int):r.take c={r.tok (3,r.cmd,c,noB) with mode:=0,cmd:=0}:=by unfold take;rw[if_neg (by rw[h];decide),if_neg (by rw[h];decide),if_pos h]
theorem t3 {r:Rc} (h:r.mode=3) (c:Int):r.take c={r with mode:=4,opt:=c}:=by unfold take;rw[if_neg (by rw[h];decide),if_neg (by rw[h];decide),if_neg (by rw[h];decide),if_pos h]
theorem t4 {r:Rc} (h:r.mode=4) (c:Int):r.take c=if c=255 then {r with mode:=5} else r.sub c:=by unfold take;rw[if_neg (by rw[h];decide),if_neg (by rw[h];decide),if_neg (by rw[h];decide),if_neg (by rw[h];decide),if_pos h]
theorem t5 {r:Rc} (h:r.mode=5) (c:Int):r.take c=if c=255 then ({r with mode:=4}:Rc).sub c else r.fin c:=by unfold take;rw[if_neg (by rw[h];decide),if_neg (by rw[h];decide),if_neg (by rw[h];decide),if_neg (by rw[h];decide),if_neg (by rw[h];decide)]
end Rc
/-- A token is pushed. -/
def Rc.push (r:Rc) (t:Tk):Rc:=if t.1=1 then {r with data:=r.data++nums t.2.2.2} else r.tok t
theorem A66 (r:Rc) (t:Tk):(r.tok t).mode=r.mode∧(r.tok t).cmd=r.cmd∧(r.tok t).opt=r.opt∧(r.tok t).over=r.over∧(r.tok t).buf=r.buf:=by
  unfold Rc.tok Rc.flush
  split<;>exact⟨rfl,rfl,rfl,rfl,rfl⟩
def Rc.opn (r:Rc):Option Tk:=if r.data=[] then none else some (dtok r.data)
theorem BV5 (r:Rc):r.flush.out=r.out++r.opn.toList:=by
  unfold Rc.flush Rc.opn
  split<;>simp
end Go.Fw
namespace Go.Fw
open Go Go.RowKit Go.Sx Go.Lib
end Go.Fw
end
