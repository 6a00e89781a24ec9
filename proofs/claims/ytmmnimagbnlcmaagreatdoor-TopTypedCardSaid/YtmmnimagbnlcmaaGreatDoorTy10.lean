/- Texts of this claim, merged: Cli2 Cli3 Utf Utf2 Utf3 Utf4 Utf6 Utf7 MaskW2 LineC IacP NvtP IacQ Nvt Nvt2 Iac. -/
import Derived.Test.YtmmnimagbnlcmaaGreatDoorTy9
import Derived.Test.YtmmnimagbnlcmaaGreatDoorRows
import Derived.WalkKit
import Derived.WalkSpells
import Derived.WalkLawsBesides
import Derived.Handy
import Derived.Lib.Hide
import Derived.Laws.BitsAllLaws
import Derived.Deep.MidRow
import Derived.Deep.WholeRow
import Derived.BigQuiet
import Derived.Deep.QuietTactic
import Derived.Laws.CopyOwn
import Derived.StillTailTactics
import Derived.RegionTactic
import Derived.ChangeAlike
import Derived.Laws.AppendOwnNone
import Derived.Laws.MakeOwn
import Derived.Laws.IdiomStrings
import Derived.OrdersHeld
import Derived.Lib.SliceRun
import Derived.ChangeKeysEq
import Derived.Laws.CopyRow
import Derived.Lib.AppendStr
import Derived.ArgAppend
import Derived.Laws.RangeAny
import Derived.Maps.RangeRun
import Derived.Lib.Replace
import Derived.Shelf.Strings.Builder1
import Derived.Shelf.Strings.Builder2
import Derived.Shelf.Strings.OnBuilder
import Derived.Shelf.Strings.Trim
import Derived.Shelf.Small.Utf8
import Derived.Shelf.Small.Strs
import Derived.Shelf.Strings.BuilderF
import Derived.Shelf.Strconv.Itoa0
import Derived.Shelf.Strconv.Itoa1
import Derived.Shelf.LaysM
import Derived.Shelf.Strconv.Itoa2
import Derived.Shelf.Strconv.Itoa3
import Derived.Shelf.Strings.Search1
import Derived.Shelf.Strings.Search2
import Derived.Shelf.Strings.Search3
import Derived.Shelf.Strings.Count
import Derived.Shelf.Strings.Shaped
import Derived.Shelf.Strings.LastIndex
import Derived.Shelf.Strings.Prefix
import Derived.Shelf.Strings.Split
import Derived.Shelf.Strings.Replace
import Derived.Shelf.Strings.SplitShaped
import Derived.Shelf.Strings.Runes
import Derived.Shelf.Strings.AsciiSet
import Derived.Shelf.Bits.Mul64
import Derived.Shelf.Strings.Repeat
import Derived.Shelf.Unicode.DecodeSlow
import Derived.Shelf.Unicode.DecodeAny
import Derived.Shelf.Unicode.ValidAny
import Derived.Test.YtmmnimagbnlcmaaGreatDoorProg
import Derived.Lib.Repeat
import Derived.Lib.DecodeN
set_option maxRecDepth 100000
set_option maxHeartbeats 8000000
open Go Go.RowKit Go.Fw Go.Sx
namespace Go.Proofs.YtmmnimagbnlcmaaGreatDoor
theorem Bj6 {p q S:List Value} (h:q.length=S.length):over (p++q) p.length S=p++S:=by
 unfold over
 rw[List.take_left,List.drop_eq_nil_of_le (by simp;omega),List.append_nil]
theorem Af7 {a N c vs:List Value} {off:Nat} (h:off+vs.length≤a.length):over (big a N c) off vs=big (over a off vs) N c:=by
 unfold over big
 rw[List.take_append_of_le_length (by omega),List.drop_append_of_le_length (by omega)]
 simp only[List.append_assoc]
theorem Ap5 {a N c vs:List Value} {m off:Nat} [hN:Len N m] (h2:Nat.ble (a.length+m) off=true):over (big a N c) off vs=big a N (over c (off-(a.length+m)) vs):=by
 have h2:=Nat.le_of_ble_eq_true h2
 have hN:=hN.here
 have e3:(a++N).length=a.length+m:=by rw[List.length_append,hN]
 unfold over big
 rw[←List.append_assoc,List.take_append,List.take_of_length_le (by omega),List.drop_append,show (a++N).drop (off+vs.length)=[] from List.drop_eq_nil_of_le (by omega),e3,List.nil_append]
 simp only[List.append_assoc]
 congr 5
 omega
theorem AN5 {offs:List (Nat×Nat)} {l cs l':List Value} {i off sz:Nat} {r:List (Nat×List Value)} (h1:offs[i]? =some (off,sz)) (h2:cs.length=sz) (h3:0<sz) (h4:off+sz≤l.length) (h5:over l off cs=l'):AB6 offs l ((i,cs)::r)=AB6 offs l' r:=by
 rw[B57 h1 h2 h3 h4,←h5]
 unfold over
 rw[h2,List.append_assoc]
def AL1:List Value:= .int .i64 0:: .int .i64 0:: .int .i64 0:: .string .empty:: .bool false:: .bool false:: .string .empty:: .int .i64 0:: .int .i64 0:: .string .empty:: .string .empty:: .string .empty::[]
def negZ:List Value:=List.replicate 512 (Value.int .u8 0)++List.replicate 8 (Value.int .u64 0)
def keyZ:List Value:=List.replicate 38 (Value.int .u8 0)
def cliE:List Value:=[.int .u64 0,.int .u64 0,.int .u64 0,.int .u64 0,.string .empty,.bool false,.bool false]
def cliZ:List Value:=big (AL1++scnZ) negZ (big [.slice none 0 0,.int .i64 0,.slice none 0 0] keyZ cliE)
def At3:List (Nat×Nat):=[(0,5),(5,1),(6,1),(7,5),(12,33),(45,520),(565,2),(567,1),(568,38),(606,4),(610,2),(612,1)]
instance CG3:Len negZ 520:=⟨by simp [negZ]⟩
instance CG7:Len keyZ 38:=⟨by simp [keyZ]⟩
theorem B77:OffsT Tryz.prog 56 At3 cliZ:=⟨(At3.toArray[·]?),fun _=>by kernel_rfl,fun i p h=>by simpa using h⟩
instance CG5:ZeroT Tryz.prog 56 cliZ:=⟨_,show still Tryz.prog (zeroValue 56)=some (.agg cliZ.toArray) by kernel_rfl,.agg _⟩
theorem B56:OffsT Tryz.prog 44 [(0,256),(256,256),(512,4),(516,4)] negZ:=⟨(([(0,256),(256,256),(512,4),(516,4)]:List (Nat×Nat)).toArray[·]?),fun _=>by kernel_rfl,fun i p h=>by simpa using h⟩
def cliP (na:Option Addr) (nn nc:Nat) (at':Int) (va:Option Addr) (vn vc:Nat):List Value:=[.slice na nn nc,.int .i64 at',.slice va vn vc]
theorem Bq8 (S N:List Value) (hS:S.length=33) (hN:N.length=520) (na:Option Addr) (nn nc:Nat) (va:Option Addr) (vn vc:Nat):
 AB6 At3 cliZ [(4,S),(6,[.slice na nn nc,.int .i64 0]),(7,[.slice va vn vc]),(5,N)]=some (big (AL1++S) N (big (cliP na nn nc 0 va vn vc) keyZ cliE)):=by
 have hc:cliZ.length=613:=by unfold cliZ;exact AG5 (m:=520) (by rw[show (big [Value.slice none 0 0,.int .i64 0,.slice none 0 0] keyZ cliE).length=48 from AG5 (m:=38) rfl];rfl)
 have h1:over cliZ 12 S=big (AL1++S) negZ (big [.slice none 0 0,.int .i64 0,.slice none 0 0] keyZ cliE):=by
  unfold cliZ
  rw[Af7 (by rw[hS];exact Nat.le_of_ble_eq_true O)]
  rw[show (12:Nat)=AL1.length from rfl,Bj6 (by rw[hS];rfl)]
 have hA:(AL1++S).length=45:=by rw[List.length_append,hS];rfl
 have h2:over (big (AL1++S) negZ (big [.slice none 0 0,.int .i64 0,.slice none 0 0] keyZ cliE)) 565 [.slice na nn nc,.int .i64 0]=big (AL1++S) negZ (big [.slice na nn nc,.int .i64 0,.slice none 0 0] keyZ cliE):=by
  rw[Ap5 (m:=520) (by rw[hA];rfl),hA,show 565-(45+520)=0 from rfl,Af7 (Nat.le_of_ble_eq_true rfl)]
  rfl
 have h3:over (big (AL1++S) negZ (big [.slice na nn nc,.int .i64 0,.slice none 0 0] keyZ cliE)) 567 [.slice va vn vc]=big (AL1++S) negZ (big (cliP na nn nc 0 va vn vc) keyZ cliE):=by
  rw[Ap5 (m:=520) (by rw[hA];rfl),hA,show 567-(45+520)=2 from rfl,Af7 (Nat.le_of_ble_eq_true rfl)]
  rfl
 have h4:over (big (AL1++S) negZ (big (cliP na nn nc 0 va vn vc) keyZ cliE)) 45 N=big (AL1++S) N (big (cliP na nn nc 0 va vn vc) keyZ cliE):=AI1 (m:=520) hA hN
 have hb:∀(P:List Value),P.length=3→(big (AL1++S) negZ (big P keyZ cliE)).length=613:=fun P hP=>by
  rw[AG5 (m:=520) (k:=613) (by rw[show (big P keyZ cliE).length=48 from AG5 (m:=38) (by rw[hP];rfl),hA];rfl)]
 rw[AN5 (off:=12) (sz:=33) rfl hS (by decide) (by rw[hc];decide) h1,AN5 (off:=565) (sz:=2) rfl rfl (by decide) (by rw[hb _ rfl];decide) h2,AN5 (off:=567) (sz:=1) rfl rfl (by decide) (by rw[hb _ rfl];decide) h3,AN5 (off:=45) (sz:=520) rfl hN (by decide) (by rw[hb _ rfl];decide) h4]
 rfl
theorem Bz4 (x:List Value) (y:List Value) (hx:x.length=4) (hy:y.length=4):AB6 [(0,256),(256,256),(512,4),(516,4)] negZ [(2,x),(3,y)]=some (List.replicate 512 (Value.int .u8 0)++(x++y)):=by
 have hz:negZ.length=520:=by simp [negZ]
 have h1:over negZ 512 x=List.replicate 512 (Value.int .u8 0)++(x++List.replicate 4 (.int .u64 0)):=by
  unfold over negZ
  rw[hx,List.take_append_of_le_length (by simp),List.take_of_length_le (by simp),List.drop_append,List.drop_eq_nil_of_le (by simp)]
  simp
 have h2:over (List.replicate 512 (Value.int .u8 0)++(x++List.replicate 4 (.int .u64 0))) 516 y=List.replicate 512 (Value.int .u8 0)++(x++y):=by
  unfold over
  rw[hy,←List.append_assoc,List.take_append,List.take_of_length_le (by simp;omega),List.drop_eq_nil_of_le (by simp;omega)]
  simp [hx]
 rw[AN5 (off:=512) (sz:=4) rfl hx (by decide) (by rw[hz];decide) h1,AN5 (off:=516) (sz:=4) rfl hy (by decide) (by simp [hx]) h2]
 rfl
theorem Bi3 (x0 x1 x2 x3 x4 x5 x6 x7:Int):AB6 [(0,256),(256,256),(512,4),(516,4)] negZ [(2,[.int .u64 x0,.int .u64 x1,.int .u64 x2,.int .u64 x3]),(3,[.int .u64 x4,.int .u64 x5,.int .u64 x6,.int .u64 x7])]=some (negC (List.replicate 512 0) [x0,x1,x2,x3,x4,x5,x6,x7]):=by
 rw[Bz4 _ _ rfl rfl]
 unfold negC octs wds
 rw[List.map_replicate]
 rfl
theorem x9 {a N c:List Value} (h1:a.all (·.oneCell')=true) (h2:N.all (·.oneCell')=true) (h3:c.all (·.oneCell')=true):(big a N c).all (·.oneCell')=true:=by
 unfold big;rw[List.all_append,List.all_append,h1,h2,h3];rfl
theorem AF6 (W X:List Int):(negC W X).all (·.oneCell')=true:=by
 unfold negC wds octs
 simp [List.all_append,Value.oneCell']
theorem AM2 (K:List Int):(octs K).all (·.oneCell')=true:=A11 K
def kChC:List Int:=[127,21,23,18,22]
def kSet (p:Nat→Bool):List Int:=(List.range 38).map fun j=>if 10≤j∧j≤14∧p (j-10)=true then 2 else if 29≤j∧j≤33∧p (j-29)=true then kChC.getD (j-29) 0 else 0
theorem AB7 (p:Nat→Bool):(kSet p).length=38:=by simp [kSet]
theorem BG6 (p:Nat→Bool) (j:Nat) (hj:j<38):(kSet p)[j]? =some (if 10≤j∧j≤14∧p (j-10)=true then 2 else if 29≤j∧j≤33∧p (j-29)=true then kChC.getD (j-29) 0 else 0):=by
 unfold kSet
 rw[List.getElem?_map,List.getElem?_range hj];rfl
theorem BQ6:octs (kSet fun _=>false)=keyZ:=by
 rw[show kSet (fun _=>false)=List.replicate 38 0 from by decide+kernel];simp [octs,keyZ]
theorem BZ4 (p:Nat→Bool) (i:Nat) (hi:i<5):((kSet p).set (10+i) 2).set (29+i) (kChC.getD i 0)=kSet fun j=>p j||j==i:=by
 apply List.ext_getElem?
 intro j
 by_cases hj:j<38
 ·rw[BG6 _ j hj,List.getElem?_set,List.getElem?_set,BG6 _ j hj]
  simp only[List.length_set,AB7]
  by_cases h1:29+i=j
  ·subst h1
   have:¬(29+i≤14):=by omega
   simp [hj,this,show 29+i≤33 from by omega]
  ·rw[if_neg h1]
   by_cases h2:10+i=j
   ·subst h2
    simp [hj,show 10+i≤14 from by omega]
   ·rw[if_neg h2]
    congr 1
    have e1:(10≤j∧j≤14∧p (j-10)=true)↔(10≤j∧j≤14∧(p (j-10)||j-10==i)=true):=by
     constructor
     ·rintro ⟨a,b,c⟩;exact⟨a,b,by rw[c];rfl⟩
     ·rintro ⟨a,b,c⟩
      refine⟨a,b,?_⟩
      rw[Bool.or_eq_true,beq_iff_eq] at c
      rcases c with c|c
      ·exact c
      ·omega
    have e2:(29≤j∧j≤33∧p (j-29)=true)↔(29≤j∧j≤33∧(p (j-29)||j-29==i)=true):=by
     constructor
     ·rintro ⟨a,b,c⟩;exact⟨a,b,by rw[c];rfl⟩
     ·rintro ⟨a,b,c⟩
      refine⟨a,b,?_⟩
      rw[Bool.or_eq_true,beq_iff_eq] at c
      rcases c with c|c
      ·exact c
      ·omega
    simp only[e1,e2]
 ·rw[List.getElem?_eq_none (by simp [AB7];omega),List.getElem?_eq_none (by simp [AB7];omega)]
theorem Ab7 {p q:Nat→Bool} (h:∀i,i<5→p i=q i):kSet p=kSet q:=by
 unfold kSet
 refine List.map_congr_left fun j hj=>?_
 by_cases h1:10≤j∧j≤14
 ·rw[h (j-10) (by omega),if_neg (by omega:¬(29≤j∧_)),if_neg (by omega:¬(29≤j∧_))]
 ·rw[if_neg (by omega:¬(10≤j∧_)),if_neg (by omega:¬(10≤j∧_))]
  by_cases h2:29≤j∧j≤33
  ·rw[h (j-29) (by omega)]
  ·rw[if_neg (by omega:¬(29≤j∧_)),if_neg (by omega:¬(29≤j∧_))]
theorem BI6 {A N P E:List Value} {K:List Int} (hA:A.length=45) (hN:N.length=520) (hP:P.length=3) (hK:K.length=38) (j k:Nat) (v:Int) (hj:j<38) (hk:k=568+j):(big A N (big P (octs K) E)).set k (.int .u8 v)=big A N (big P (octs (K.set j v)) E):=by
 subst hk
 unfold big
 rw[List.set_append_right _ _ (by omega),List.set_append_right _ _ (by omega),List.set_append_right _ _ (by omega),List.set_append_left _ _ (by rw[AC7];omega),Bc9,hA,hN,hP,show 568+j-45-520-3=j from by omega]
theorem At0 {A N P E K:List Value} (hA:A.length=45) (hN:N.length=520) (hP:P.length=3) (hK:K.length=38) (hE:E.length=7):(big A N (big P K E)).length=613:=by
 unfold big
 simp only[List.length_append,hA,hN,hP,hK,hE]
def kE (i:Nat):MapEntry:=⟨.int .i64 (10+i:Nat),.int .u8 (kChC.getD i 0),i⟩
def kEs:Array MapEntry:=#[kE 0,kE 1,kE 2,kE 3,kE 4]
theorem BD6 {y:MapEntry} (h:y∈kEs.toList):∃i,i<5∧y=kE i:=by
 simp only[kEs,List.mem_cons,List.not_mem_nil,or_false] at h
 rcases h with rfl|rfl|rfl|rfl|rfl
 ·exact⟨0,by decide,rfl⟩
 ·exact⟨1,by decide,rfl⟩
 ·exact⟨2,by decide,rfl⟩
 ·exact⟨3,by decide,rfl⟩
 ·exact⟨4,by decide,rfl⟩
theorem kOld:∀y∈kEs.toList,y.born<5:=fun y h=>by obtain⟨i,hi,rfl⟩:=BD6 h;exact hi
theorem B95:(kEs.toList.map (·.born)).Nodup:=by decide
theorem Bq2 (i:Nat) (h:i<5):kE i∈kEs.toList:=by
 rcases (show i=0∨i=1∨i=2∨i=3∨i=4 by omega) with rfl|rfl|rfl|rfl|rfl<;>simp [kEs]
theorem kLeft {seen:Array Nat} {y:MapEntry} (h:y∈(leftOf kEs seen).toList):∃i,i<5∧y=kE i∧seen.contains i=false:=by
 unfold leftOf at h
 rw[Array.toList_filter,List.mem_filter] at h
 obtain⟨i,hi,rfl⟩:=BD6 h.1
 exact⟨i,hi,O,by simpa [kE] using h.2⟩
theorem B61 {seen:Array Nat} (h:(leftOf kEs seen).size=0) (i:Nat) (hi:i<5):seen.contains i=true:=by
 cases hc:seen.contains i with
 | true=>rfl
 | false=>
   have hm:kE i∈(leftOf kEs seen).toList:=by
    unfold leftOf
    rw[Array.toList_filter,List.mem_filter]
    exact⟨Bq2 i hi,by simpa [kE] using hc⟩
   rw[Array.eq_empty_of_size_eq_zero h] at hm
   cases hm
def m5 (a b c d e:Bool):Nat:=(!a).toNat+(!b).toNat+(!c).toNat+(!d).toNat+(!e).toNat
def kMu (seen:Array Nat):Nat:=m5 (seen.contains 0) (seen.contains 1) (seen.contains 2) (seen.contains 3) (seen.contains 4)
theorem B39 {seen:Array Nat} {i:Nat} (hi:i<5) (h:seen.contains i=false):kMu (seen.push i)<kMu seen:=by
 unfold kMu
 simp only[Array.contains_push]
 have key0:∀b c d e:Bool,m5 (false||true) (b||false) (c||false) (d||false) (e||false)<m5 false b c d e:=by decide
 have key1:∀b c d e:Bool,m5 (b||false) (false||true) (c||false) (d||false) (e||false)<m5 b false c d e:=by decide
 have key2:∀b c d e:Bool,m5 (b||false) (c||false) (false||true) (d||false) (e||false)<m5 b c false d e:=by decide
 have key3:∀b c d e:Bool,m5 (b||false) (c||false) (d||false) (false||true) (e||false)<m5 b c d false e:=by decide
 have key4:∀b c d e:Bool,m5 (b||false) (c||false) (d||false) (e||false) (false||true)<m5 b c d e false:=by decide
 rcases (show i=0∨i=1∨i=2∨i=3∨i=4 by omega) with rfl|rfl|rfl|rfl|rfl<;>rw[h]
 ·exact key0 _ _ _ _
 ·exact key1 _ _ _ _
 ·exact key2 _ _ _ _
 ·exact key3 _ _ _ _
 ·exact key4 _ _ _ _
instance :MapT Tryz.prog 145 3 5 (.int .i64):=⟨Tryz.underlying145,Tryz.underlying3,rfl⟩
instance :MapT Tryz.prog 254 3 3 (.int .i64):=⟨Tryz.underlying254,Tryz.underlying3,rfl⟩
section
attribute [local irreducible] SW SL SQ AtQ SV SC BB LD PK Yields SO SOT SOA SY SP SPT SPA negC
abbrev endsL (x:Nat→Int):List Value:=[.int .u64 (x 0),.int .u64 (x 1),.int .u64 (x 2),.int .u64 (x 3),.int .u64 (x 4),.int .u64 (x 5),.int .u64 (x 6),.int .u64 (x 7)]
abbrev endsX (x:Nat→Int):List Int:=[x 0,x 1,x 2,x 3,x 4,x 5,x 6,x 7]
def newC (S:List Value) (x:Nat→Int) (na:Option Addr) (nn nc:Nat) (va:Option Addr) (vn vc:Nat):List Value:=
 big (AL1++S) (negC (List.replicate 512 0) (endsX x)) (big (cliP na nn nc 0 va vn vc) (octs (kSet fun _=>true)) cliE)
theorem BS2 (G:Ctx) (H:List Ent) (w h:Nat) (hw:1≤w∧w≤160) (hh:1≤h∧h≤60) (l:List ByteArray) (a:Option Addr) (n c:Nat) (L:List Vr) (va:Option Addr) (vn vc:Nat) (x:Nat→Int) [h1:RdC G H a (strs l)] [h2:RdC G H va (vrs L)]
 (hn:n=l.length) (hz:∀y∈l,y.size≤maxLen) (hm:n≤100000000) (hvn:vn=L.length) (hvm:vn≤100000000) (hs:AK2 l 0=0) (hv:(AG9 L).2=0)
 (cS:∀(H:List Ent) (a:Option Addr) (c:Nat) [RdC G H a (strs l)] [CapC G H a n c],SV Tryz.prog G 48 [BZ2 a n c 0] H (.int .i64 (AK2 l 0)))
 (cW:∀(H:List Ent) [RdC G H va (vrs L)],SV Tryz.prog G 49 [.slice va vn vc] H (.tuple #[.string (AG9 L).1,.int .i64 (AG9 L).2])):
 SC Tryz.prog G 21 [.int .i64 w,.int .i64 h,.slice a n c,.slice va vn vc,.agg (endsL x).toArray] H fun v H'=>∃ga oa oc na nc xa xc,v= .tuple #[.agg (newC (scnC (newS w h) ga (w * h) (w * h) oa (w * h) oc none 0 0) x na n nc xa vn xc).toArray,.int .i64 0]∧
  H'= .own 142 4 xa vn xc (vrs L):: .own 9 1 na n nc (strs l):: .own 97 4 oa (w * h) oc (qds (newS w h).D):: .own 97 4 ga (w * h) (w * h) (qds (newS w h).C)::H:=by
 rw[hs] at cS
 rw[hv] at cW
 have cN:=fun H=>Ax7 G H w h hw hh
 have hls:(strs l).length=n * 1:=by simp [strs,hn]
 have hlv:(vrs L).length=vn * 4:=by unfold vrs;rw[AZ2,hvn]
 have hos:=Bg3 l
 have hov:=Bw5 L
 have cC1:=fun (H:List Ent) [RdC G H a (strs l)]=>Aw7 G H a n c hls hos hm
 have cC2:=fun (H:List Ent) [RdC G H va (vrs L)]=>At8 G H va vn vc hlv hov hvm
 generalize (newS w h).C=SC' at *
 generalize (newS w h).D=SD' at *
 clear hs hv hn hvn
 generalize (AG9 L).1=s0 at *
 have hB:=fun (na:Option Addr) (nc:Nat) (xa:Option Addr) (xc:Nat) (S:List Value) (hS:S.length=33)=>Bq8 S (negC (List.replicate 512 0) (endsX x)) hS (AL9 (by simp) rfl) na n nc xa vn xc
 have hlN:=AL9 (W:=List.replicate 512 0) (X:=endsX x) (by simp) rfl
 have hNF:=Bi3 (x 0) (x 1) (x 2) (x 3) (x 4) (x 5) (x 6) (x 7)
 have hone:=AF6 (List.replicate 512 0) (endsX x)
 haveI hLN:Len (negC (List.replicate 512 0) (endsX x)) 520:=⟨hlN⟩
 generalize hNd:negC (List.replicate 512 0) (endsX x)=N at *
 generalize w * h=p at *
 refine AR9 Tryz.func21 O O O O O ?_
 repeat' (first|(apply E8;first|(apply A8;refine A9 ?_)|(apply C8;refine D7 O O ?_)|(apply E5;refine F7 O O O ?_;refine F9 O ?_)|(apply D5;refine D9 O O ?_)|(apply U7;refine X7 (M0 O O O) O ?_)|(apply H5;refine c_call O O O (cN _) O O ?_;rintro _ _ ⟨ga,oa,oc,rfl,rfl⟩)|(apply H8;refine Q8 O O O O O O O O ?_)|(apply K6;refine L9 O O O O O O (fun _=>?_))|(apply O6;refine Q4 O O O O (fun _=>?_)))|(apply D6)|(apply G8)|((fail_if_success (refine J5 (id:=4) ?_));apply A7)|(refine G5 O ?_;apply H7)|(apply C9))
 have hcl:∀(S P:List Value),S.length=33→P.length=3→(big (AL1++S) N (big P keyZ cliE)).length=613:=fun S P hS hP=>by
  rw[AG5 (m:=520) (k:=613) (by rw[show (big P keyZ cliE).length=48 from AG5 (m:=38) (by rw[hP];rfl),List.length_append,hS];rfl)]
 have hzl:cliZ.length=613:=by unfold cliZ;exact AG5 (m:=520) (by rw[show (big [Value.slice none 0 0,.int .i64 0,.slice none 0 0] keyZ cliE).length=48 from AG5 (m:=38) rfl];rfl)
 have hal:∀(S P:List Value),S.all (·.oneCell')=true→P.all (·.oneCell')=true→(big (AL1++S) N (big P keyZ cliE)).all (·.oneCell')=true:=fun S P hS hP=>x9 (by rw[List.all_append,hS];rfl) hone (x9 hP (by decide+kernel) rfl)
 rename_i b1 b2 b3
 refine y5 (α:=Nat×Option Addr×Nat×Option Addr×Nat) (fun g=>[(3,.slice va vn vc),(10,.pointer (some ⟨b2,0,none⟩)),(14,.pointer (some ⟨g.1,0,none⟩))])
  (fun g=> .blk g.1 56 (big (AL1++scnC (newS w h) ga p p oa p oc none 0 0) N (big (cliP g.2.1 n g.2.2.1 0 g.2.2.2.1 vn g.2.2.2.2) keyZ cliE)):: .own 142 4 g.2.2.2.1 vn g.2.2.2.2 (vrs L):: .own 9 1 g.2.1 n g.2.2.1 (strs l):: .own 97 4 oa p oc (qds SD'):: .own 97 4 ga p p (qds SC'):: .blk b2 56 cliZ::H) (fun _=>True) ?_ ?_
 ·repeat' (first|(apply E8;first|(apply A8;refine A9 ?_)|(apply H5;first|(refine c_call O O O (cC1 _) O O ?_;rintro _ _ ⟨na,nc,rfl,rfl⟩)|(refine c_call O O O (cC2 _) O O ?_;rintro _ _ ⟨xa,xc,rfl,rfl⟩))|(apply H8;refine y8 O O O O (hal _ _ O O) (hcl _ _ O O) hzl O ?_)|(apply O6;refine Q4 O O O O (fun _=>?_)))|(apply Q0;refine N8 (k:=0) J3 ?_)|(apply U3;first|(refine L8 O ?_)|(refine O4 O O O O (by kernel_rfl) (by decide+kernel) (by decide+kernel) ?_;first|(apply O1;refine G9 (P9 O O) ?_)|(apply R9;refine R6 O ?_;first|refine M5 O ?_ |refine O9 O O ?_)|(apply M3;refine G9 (D8 O O) ?_)|(apply AM5;first|refine G9 (Q9 O O O) ?_ |(first|(refine G9 (Q9 (h:=B56) O O hNF) ?_)|(refine G9 (Q9 (h:=B77) O O (hB _ _ _ _ _ O)) ?_))))|(refine O5 O ?_)|(refine N9 (by decide+kernel) ?_)|(refine Q6 (by kernel_rfl) ?_))|(apply V3;first|(refine Q5 O)|(refine U1 (by decide+kernel) ?_)|(refine Q3 O ?_ ?_))|(refine J5 (id:=4) ?_;refine Z6 _ (fun _ hw=>hw) ?_))
  all_goals
   rename_i b4
   exact J6 (b4,na,nc,xa,xc) trivial Q7 J3
 rintro ⟨b4,na,nc,xa,xc⟩-
 dsimp only
 repeat' (first|(apply E8;first|(apply A8;refine A9 ?_)|(apply C8;refine D7 O O ?_)|(apply E5;refine F7 O O O ?_;refine F9 O ?_)|(apply F5;refine F8 O O ?_;refine O9 (AD8 (m:=520) O (AZ9 O)) O ?_)|(apply D5;refine D9 O O ?_)|(apply G6;refine G7 (D8 O O) O ?_)|(apply U7;refine X7 (M0 O O O) O ?_)|(apply H5;first|refine H6 O O O (cS _ _ _) O O ?_ |refine H6 O O O (cW _) O O ?_)|(first|(refine Ad6 O O O O (fun _=>?_))|(refine Al5 O O O O O O O ?_)|(refine BM4 O O O O O (fun _=>?_))))|(apply D6)|(apply G8)|(apply F3)|((fail_if_success (refine J5 (id:=12) ?_));apply A7)|(refine G5 O ?_;apply H7)|(apply C9))
 rename_i bm it
 generalize hA:AL1++scnC (newS w h) ga p p oa p oc none 0 0=A at *
 have hAl:A.length=45:=by rw[←hA];rfl
 generalize hP:cliP na n nc 0 xa vn xc=P at *
 have hPl:P.length=3:=by rw[←hP];rfl
 have hk0:octs (kSet fun i=>(#[]:Array Nat).contains i)=keyZ:=by rw[←BQ6,Ab7 (p:=fun i=>(#[]:Array Nat).contains i) (q:=fun _=>false) (fun i _=>by simp)]
 refine R7 (α:=Array Nat) (fun seen=>[(10,.pointer (some ⟨b2,0,none⟩)),(14,.pointer (some ⟨b4,0,none⟩)),(60,.pointer (some ⟨it,0,none⟩))])
  (fun seen=> .obj it (.mapIter (some bm) 5 seen 5):: .obj bm (.map kEs 5):: .blk b4 56 (big A N (big P (octs (kSet fun i=>seen.contains i)) cliE)):: .own 142 4 xa vn xc (vrs L):: .own 9 1 na n nc (strs l):: .own 97 4 oa p oc (qds SD'):: .own 97 4 ga p p (qds SC'):: .blk b2 56 cliZ::H)
  (fun _=>True) kMu #[] trivial Q7 (fun _ hw=>by rw[hk0];exact hw) ?_
 intro seen _
 repeat' (first|(apply E8;first|(apply A8;refine A9 ?_)|(apply D5;refine D9 O O ?_)|(apply U7;refine X7 (M0 O O O) O ?_)|(first|(refine BU7 O O O O O kOld (Nat.le_refl _) (fun y hy=>?_) (fun h0=>?_);(obtain⟨i,hi,rfl,hc⟩:=kLeft hy))|(refine AA2 O (Bu7 O O (Bq2 _ hi) B95) O O ?_)))|(apply D6)|(apply G8)|(apply O7)|(apply F3)|((fail_if_success (refine J5 (id:=14) ?_));apply A7)|(refine G5 O ?_;first|(apply I1)|(apply H7))|(apply C9)|(apply K3)|(apply K4))
 ·have s1:=BI6 (E:=cliE) hAl hlN hPl (AB7 fun j=>seen.contains j) (10+i) (568+0+((10+i:Nat):Int).toNat * 1) 2 (by omega) (by omega)
  have s2:=BI6 (E:=cliE) hAl hlN hPl (K:=(kSet fun j=>seen.contains j).set (10+i) 2) (by rw[List.length_set];exact AB7 _) (29+i) (568+19+((10+i:Nat):Int).toNat * 1) (kChC.getD i 0) (by omega) (by omega)
  rw[BZ4 _ i hi,Ab7 (p:=fun j=>seen.contains j||j==i) (q:=fun j=>(seen.push i).contains j) (fun j _=>by rw[Array.contains_push])] at s2
  have l1:568+0+((10+i:Nat):Int).toNat * 1<(big A N (big P (octs (kSet fun j=>seen.contains j)) cliE)).length:=by rw[At0 hAl hlN hPl (by rw[AC7];exact AB7 _) rfl];omega
  have l2:568+19+((10+i:Nat):Int).toNat * 1<(big A N (big P (octs ((kSet fun j=>seen.contains j).set (10+i) 2)) cliE)).length:=by rw[At0 hAl hlN hPl (by rw[AC7,List.length_set];exact AB7 _) rfl];omega
  repeat' (first|(apply E8;first|(apply A8;refine A9 ?_)|(apply C8;refine D7 O O ?_)|(apply G6;first|refine G7 (D8 O O) O ?_ |refine G7 (AB5 O O) O ?_)|(apply M4;refine M8 (l7 O O O (by omega) (by omega)) O ?_)|(apply H8;first|(refine AE9 O O O O O s1 l1 O ?_)|(refine AE9 O O O O O s2 l2 O ?_)))|(apply A7)|(apply H9))
  exact J6 (seen.push i) ⟨trivial,B39 hi hc⟩ Q7 J3
 ·have hlen:=At0 (E:=cliE) hAl hlN hPl (K:=octs (kSet fun i=>seen.contains i)) (by rw[AC7];exact AB7 _) rfl
  have hall:(big A N (big P (octs (kSet fun i=>seen.contains i)) cliE)).all (·.oneCell')=true:=x9 (by rw[←hA];rfl) hone (x9 (by rw[←hP];rfl) (AM2 _) rfl)
  have hz5:cliZ.length=613:=hzl
  repeat' (first|(apply E8;first|(apply A8;refine A9 ?_)|(apply F5;refine F8 O O ?_;refine M5 (by rw[hlen];rfl) ?_)|(apply D5;refine D9 O O ?_)|(apply H8;refine y8 O O O O hall hlen hz5 O ?_))|(apply I4)|(apply C9))
  refine AB4 (.own 142 4 xa vn xc (vrs L):: .own 9 1 na n nc (strs l):: .own 97 4 oa p oc (qds SD'):: .own 97 4 ga p p (qds SC')::H) (.inr O) O hlen O J3 ?_
  exact⟨ga,oa,oc,na,nc,xa,xc,by unfold newC;rw[hA,hP,hNd,Ab7 (p:=fun _=>true) (q:=fun i=>seen.contains i) (fun i hi=>(B61 h0 i hi).symm)];rfl,rfl⟩
end
end Go.Proofs.YtmmnimagbnlcmaaGreatDoor
namespace Go.Fw
def needU (c:Int):Int×Int×Int:=
 if 194≤c∧c≤223 then (1,128,191) else if c=224 then (2,160,191) else if c=237 then (2,128,159) else if 225≤c∧c≤239 then (2,128,191) else if c=240 then (3,144,191) else if c=244 then (3,128,143) else if 241≤c∧c≤243 then (3,128,191) else (0,0,0)
def longU (L:List Int):Int×Bool:=
 if (needU (L.getD 0 0)).1=0 then (0,false)
 else if ¬(2≤L.length∧(needU (L.getD 0 0)).2.1≤L.getD 1 0∧L.getD 1 0≤(needU (L.getD 0 0)).2.2) then (1,false)
 else if ¬(2≤(needU (L.getD 0 0)).1∧3≤L.length∧128≤L.getD 2 0∧L.getD 2 0≤191) then (2,decide ((needU (L.getD 0 0)).1<2))
 else if ¬(3≤(needU (L.getD 0 0)).1∧4≤L.length∧128≤L.getD 3 0∧L.getD 3 0≤191) then (3,decide ((needU (L.getD 0 0)).1<3))
 else (4,true)
def partU (L:List Int):Prop:=(longU L).2=false∧(longU L).1=L.length
instance (L:List Int):Decidable (partU L):=by unfold partU;infer_instance
def wfU (L:List Int):Bool:=match L with
 | [a]=>decide (0≤a∧a<128)
 | [a,b]=>decide (194≤a∧a≤223∧128≤b∧b≤191)
 | [a,b,c]=>decide (224≤a∧a≤239∧128≤b∧b≤191∧128≤c∧c≤191∧(a=224→160≤b)∧(a=237→b≤159))
 | [a,b,c,d]=>decide (240≤a∧a≤244∧128≤b∧b≤191∧128≤c∧c≤191∧128≤d∧d≤191∧(a=240→144≤b)∧(a=244→b≤143))
 | _=>false
theorem AD5 (a:Int):(194≤a∧a≤223∧needU a=(1,128,191))∨(a=224∧needU a=(2,160,191))∨(a=237∧needU a=(2,128,159))∨(225≤a∧a≤239∧a≠237∧needU a=(2,128,191))∨(a=240∧needU a=(3,144,191))∨(a=244∧needU a=(3,128,143))∨(241≤a∧a≤243∧needU a=(3,128,191))∨((a<194∨244<a)∧needU a=(0,0,0)):=by
 unfold needU
 repeat' split
 all_goals (simp_all<;>omega)
end Go.Fw
namespace Go.Proofs.YtmmnimagbnlcmaaGreatDoor
section
attribute [local irreducible] SW SL SQ AtQ SV SC BB LD PK Yields SO SOT SOA SY SP SPT SPA
def isR (c:Int):Prop:=(0≤c∧c≤55295)∨(57344≤c∧c≤1114111)
instance (c:Int):Decidable (isR c):=by unfold isR;infer_instance
theorem B37 (G:Ctx) (H:List Ent) (c:Int) (h:0≤c∧c≤255):SV Tryz.prog G 52 [.int .u8 c] H (.tuple #[.int .i64 (needU c).1,.int .u8 (needU c).2.1,.int .u8 (needU c).2.2]):=by
 refine P8 Tryz.func52 O O O O O ?_
 rcases AD5 c with ⟨h1,h2,hn⟩|⟨h1,hn⟩|⟨h1,hn⟩|⟨h1,h2,h3,hn⟩|⟨h1,hn⟩|⟨h1,hn⟩|⟨h1,h2,hn⟩|⟨h1,hn⟩
 all_goals
  rw[hn]
  clear hn
  repeat' (first|(apply E8;first|(apply A8;refine A9 ?_)|(apply C8;refine D7 O O ?_)|(apply E5;refine F7 O O O ?_;refine F9 O ?_)|(apply D5;refine D9 O O ?_)|(apply I6;refine J4 O O ?_;first|(apply P7;refine P6 O ?_)|(apply M6;refine M7 O ?_))|(apply I5;refine J9 O O O O ?_;first|(apply I1)|(apply H7)|(apply E9<;>intro hq<;>(try (exfalso;omega)))))|(apply D6)|(apply G8)|(apply I4)|(apply F3)|(apply A7)|(refine G5 O ?_;first|(apply H7)|(apply E9<;>intro hq<;>(try (exfalso;omega))))|(apply C9)|(apply J8)|(apply H9)|(apply U5))
  all_goals (refine N7 (by (exact .inr O)) O O0 ?_;rfl)
theorem Ap9 (G:Ctx) (H:List Ent) (s:ByteArray) (h:0<s.size) (hm:s.size≤9223372036854775807):SV Tryz.prog G 28 [.string s] H (.tuple #[.int .i64 (longU (nums s)).1,.bool (longU (nums s)).2]):=by
 have hl:=nums_length s
 have hbd:∀k,k<s.size→0≤(nums s).getD k 0∧(nums s).getD k 0≤255:=fun k hk=>by
  have:=AE8 s ((nums s).getD k 0) (by
   rw[List.getD_eq_getElem?_getD,List.getElem?_eq_getElem (by omega)]
   exact List.getElem_mem _)
  exact this
 have cN:=fun H=>B37 G H ((nums s).getD 0 0) (hbd 0 h)
 have e:longU (nums s)=(if (needU ((nums s).getD 0 0)).1=0 then (0,false)
  else if ¬(2≤s.size∧(needU ((nums s).getD 0 0)).2.1≤(nums s).getD 1 0∧(nums s).getD 1 0≤(needU ((nums s).getD 0 0)).2.2) then (1,false)
  else if ¬(2≤(needU ((nums s).getD 0 0)).1∧3≤s.size∧128≤(nums s).getD 2 0∧(nums s).getD 2 0≤191) then (2,decide ((needU ((nums s).getD 0 0)).1<2))
  else if ¬(3≤(needU ((nums s).getD 0 0)).1∧4≤s.size∧128≤(nums s).getD 3 0∧(nums s).getD 3 0≤191) then (3,decide ((needU ((nums s).getD 0 0)).1<3))
  else (4,true)):=by unfold longU;rw[hl]
 rw[e]
 have hn:(needU ((nums s).getD 0 0)).1=0∨(needU ((nums s).getD 0 0)).1=1∨(needU ((nums s).getD 0 0)).1=2∨(needU ((nums s).getD 0 0)).1=3:=by
  rcases AD5 ((nums s).getD 0 0) with ⟨h1,h2,hn⟩|⟨h1,hn⟩|⟨h1,hn⟩|⟨h1,h2,h3,hn⟩|⟨h1,hn⟩|⟨h1,hn⟩|⟨h1,h2,hn⟩|⟨h1,hn⟩<;>rw[hn]<;>simp
 have h1b:=hbd 1
 have h2b:=hbd 2
 have h3b:=hbd 3
 generalize needU ((nums s).getD 0 0)=nd at *
 obtain⟨m,lo,hi⟩:=nd
 dsimp only at hn cN ⊢
 clear e hbd
 have ix:=fun (k:Nat)=>(rfl:(nums s).getD (k:Int).toNat 0=(nums s).getD k 0)
 generalize hL1:(nums s).getD 1 0=b1 at *
 generalize hL2:(nums s).getD 2 0=b2 at *
 generalize hL3:(nums s).getD 3 0=b3 at *
 clear ix
 have g1:(nums s).getD (Int.toNat 1) 0=b1:=hL1
 have g2:(nums s).getD (Int.toNat (1+1)) 0=b2:=hL2
 have g3:(nums s).getD (Int.toNat (1+1+1)) 0=b3:=hL3
 rcases hn with rfl|rfl|rfl|rfl
 ·refine P8 Tryz.func28 O O O O O ?_
  repeat' (first|(apply E8;first|(apply A8;refine A9 ?_)|(apply C8;refine D7 O O ?_)|(apply E5;refine F7 O O O ?_;refine F9 O ?_)|(apply D5;refine D9 O O ?_)|(apply U7;refine X7 (M0 O O O) O ?_)|(apply V5;refine Y5 (y9 O O O (by omega) (by omega)) O ?_)|(apply H5;refine H6 O O O (cN _) O O ?_))|(apply D6)|(apply I4)|(apply A7)|(refine G5 O ?_;apply I1)|(apply C9)|(apply J8))
  all_goals (refine N7 (by (exact .inr O)) O O0 ?_;rfl)
 all_goals
  refine P8 Tryz.func28 O O O O O ?_
  repeat' (first|(apply E8;first|(apply A8;refine A9 ?_)|(apply C8;refine D7 O O ?_)|(apply E5;refine F7 O O O ?_;refine F9 O ?_)|(apply D5;refine D9 O O ?_)|(apply U7;refine X7 (M0 O O O) O ?_)|(apply V5;refine Y5 (y9 O O O (by omega) (by omega)) O ?_)|(apply H5;refine H6 O O O (cN _) O O ?_))|(apply D6)|(apply G8)|(apply F3)|(apply A7)|(refine G5 O ?_;apply H7)|(apply C9))
  refine Aa4 4 (Ac1 ?_)
  repeat' (first|(apply E8;first|(apply A8;refine A9 ?_)|(apply C8;refine D7 O O ?_)|(apply E5;refine F7 O O O ?_;first|(apply K9;refine L6 ⟨by omega,by omega⟩ ?_)|refine F9 O ?_)|(apply D5;refine D9 O O ?_)|(apply I6;refine J4 O O ?_;first|(apply P7;refine P6 O ?_)|(apply M6;refine M7 O ?_))|(apply V5;refine Y5 (y9 O O O (by omega) (by omega)) O ?_)|(apply K5;refine s_call (U2 O O) O ?_)|(apply I5;refine J9 O O O O ?_;first|(apply I1)|(apply H7)|(apply E9<;>intro hq<;>(try (exfalso;omega)))))|(apply D6)|(apply A60)|(apply G8)|(apply I4)|(apply O7)|(apply F3)|(apply A7)|(refine G5 O ?_;first|(apply H7)|(apply E9<;>intro hq<;>(try (exfalso;omega))))|(apply C9)|(apply K3)|(apply H9)|(apply K4))
  all_goals (refine N7 (by (exact .inr O)) O O0 ?_;simp only[resV];(repeat' split)<;>(first|rfl|(exfalso;omega)))
def chkU (L:List Int):Int:=if L=[]∨partU L then 0 else 4
theorem Br3 {L:List Int} (h:L≠[]):chkU L=if (longU L).2=false∧(longU L).1=L.length then 0 else 4:=by
 unfold chkU
 by_cases hp:partU L
 ·rw[if_pos (.inr hp),if_pos (show (longU L).2=false∧(longU L).1=L.length from hp)]
 ·rw[if_neg (fun h2=>h2.elim h hp),if_neg (show ¬((longU L).2=false∧(longU L).1=L.length) from hp)]
theorem A35 {s:ByteArray} (h:s.size=0):s=⟨#[]⟩:=Ak2 (by
 have e:nums s=[]:=List.eq_nil_of_length_eq_zero (by rw[nums_length,h])
 rw[e]
 rfl)
theorem Ak0 (G:Ctx) (H:List Ent) (s:ByteArray) (hm:s.size≤9223372036854775807):SV Tryz.prog G 27 [.string s] H (.int .i64 (chkU (nums s))):=by
 by_cases h0:s.size=0
 ·have hs:=A35 h0
  subst hs
  refine P8 Tryz.func27 O O O O O ?_
  repeat' (first|(apply E8;first|(apply A8;refine A9 ?_)|(apply C8;refine D7 O O ?_)|(apply E5;refine F7 O O O ?_;refine AB9 ?_)|(apply D5;refine D9 O O ?_))|(apply D6)|(apply I4)|(apply A7)|(refine G5 O ?_;apply I1)|(apply C9)|(apply J8))
  all_goals (refine N7 (by (exact .inr O)) O O0 ?_;rfl)
 ·have cL:=fun H=>Ap9 G H s (by omega) hm
  have hl:=nums_length s
  have hne:¬s=⟨#[]⟩:=fun h=>h0 (by rw[h];rfl)
  have hnn:nums s≠[]:=fun h=>h0 (by rw[←hl,h];rfl)
  rw[Br3 hnn,hl]
  clear hl hnn
  generalize longU (nums s)=r at *
  obtain⟨k,w⟩:=r
  cases w
  all_goals
   refine P8 Tryz.func27 O O O O O ?_
   repeat' (first|(apply E8;first|(apply A8;refine A9 ?_)|(apply C8;refine D7 O O ?_)|(apply E5;refine F7 O O O ?_;first|refine AB9 ?_ |(refine F9 O ?_))|(apply D5;refine D9 O O ?_)|(apply I6;refine J4 O O ?_;first|(apply P7;refine P6 O ?_)|(apply M6;refine M7 O ?_))|(apply U7;refine X7 (M0 O O O) O ?_)|(apply H5;refine H6 O O O (cL _) O O ?_)|(apply K5;refine s_call (U2 O O) O ?_)|(apply I5;refine J9 O O O O ?_;first|(apply I1)|(apply d9)))|(apply D6)|(apply G8)|(apply I4)|(apply A7)|(refine G5 O ?_;first|(apply I1)|(apply E9<;>intro hq<;>(try (exfalso;omega)))|(apply Y7<;>intro hq<;>(try (exfalso;omega))))|(apply C9)|(apply J8))
   all_goals (first|(exact absurd (by assumption) hne)|(refine N7 (by (exact .inr O)) O O0 ?_;simp [resV];try omega))
def valU (L:List Int):Int:=match L with
 | [a]=>a % 128
 | [a,b]=>64 * (a % 64)+b % 64
 | [a,b,c]=>64 * (64 * (a % 32)+b % 64)+c % 64
 | [a,b,c,d]=>64 * (64 * (64 * (a % 16)+b % 64)+c % 64)+d % 64
 | _=>0
theorem Aa2 (a:List Int):(strOfNums a).size=a.length:=by
 show (⟨(a.map fun n=>UInt8.ofNat n.toNat).toArray⟩:ByteArray).size=_
 simp [ByteArray.size]
theorem Bu2 (c:Int):fixR c=if isR c then c else 65533:=by
 by_cases h:isR c
 ·rw[if_pos h]
  unfold isR at h
  unfold fixR
  rw[if_neg (by omega)]
 ·rw[if_neg h]
  unfold isR at h
  unfold fixR
  rw[if_pos (by omega)]
theorem Aw1 (x:Int) (R:List Int):encL (x::R)=runeL (fixR x)++encL R:=by unfold encL;rw[List.flatMap_cons]
theorem BY3 (G:Ctx) (H:List Ent) (xs:List Int) (a:Option Addr) (n c:Nat) {vs:List Value} [h1:RdC G H a vs] (hv:vs=ints xs) (hn:n=xs.length) (hm:xs.length≤20000000):SV Tryz.prog G 17 [.slice a n c] H (.string (strOfNums (encL xs))):=by
 subst hv
 exact u6 (l8 Tryz.func17 O O) fun w hw=>An9 xs a n c w hn hm (h1.here w hw)
end
theorem Be9 (s:ByteArray) (k:Nat) (h:k<s.size):(((s.get! k).toNat:Nat):Int)=(nums s).getD k 0:=by
 have h2:k<s.data.size:=h
 have e:s.get! k=s.data[k]:=by
  cases s with
  | mk d=>exact getElem!_pos d k h2
 rw[e]
 unfold nums
 rw[List.getD_eq_getElem?_getD,List.getElem?_map,Array.getElem?_toList,Array.getElem?_eq_getElem h2]
 rfl
theorem Bb0 {L:List Int} (h:2≤L.length):valU (L.take 2)=64 * (L.getD 0 0 % 64)+L.getD 1 0 % 64:=by
 match L,h with
 | a::b::r,_=>rfl
theorem BV3 {L:List Int} (h:3≤L.length):valU (L.take 3)=64 * (64 * (L.getD 0 0 % 32)+L.getD 1 0 % 64)+L.getD 2 0 % 64:=by
 match L,h with
 | a::b::c::r,_=>rfl
theorem BV0 {L:List Int} (h:4≤L.length):valU (L.take 4)=64 * (64 * (64 * (L.getD 0 0 % 16)+L.getD 1 0 % 64)+L.getD 2 0 % 64)+L.getD 3 0 % 64:=by
 match L,h with
 | a::b::c::d::r,_=>rfl
theorem BX1 (s:ByteArray) (h:(longU (nums s)).2=true):(((Lib.decodeGo s).1:Nat):Int)=valU ((nums s).take (longU (nums s)).1.toNat):=by
 have hl:=nums_length s
 have g:=Be9 s
 have v2:=Bb0 (L:=nums s)
 have v3:=BV3 (L:=nums s)
 have v4:=BV0 (L:=nums s)
 unfold longU at h ⊢
 generalize hn0:needU ((nums s).getD 0 0)=nu at *
 have hw:=AD5 ((nums s).getD 0 0)
 rw[hn0] at hw
 have g0:=g 0
 have g1:=g 1
 have g2:=g 2
 have g3:=g 3
 rw[hl] at *
 by_cases h1:nu.1=0
 ·rw[if_pos h1] at h;cases h
 ·rw[if_neg h1] at h ⊢
  by_cases h2:¬(2≤s.size∧nu.2.1≤(nums s).getD 1 0∧(nums s).getD 1 0≤nu.2.2)
  ·rw[if_pos h2] at h;cases h
  ·rw[if_neg h2] at h ⊢
   have h2:=Classical.not_not.1 h2
   have hs0:¬s.size=0:=by omega
   unfold Lib.decodeGo
   rw[if_neg hs0]
   rw[Lib.decode_at,Nat.sub_zero]
   simp only[Nat.zero_add]
   generalize (s.get! 0).toNat=x0 at *
   generalize (s.get! 1).toNat=x1 at *
   generalize (s.get! 2).toNat=x2 at *
   generalize (s.get! 3).toNat=x3 at *
   by_cases h3:¬(2≤nu.1∧3≤s.size∧128≤(nums s).getD 2 0∧(nums s).getD 2 0≤191)
   ·rw[if_pos h3] at h ⊢
    rw[show ((2:Int),decide (nu.1<2)).1.toNat=2 from rfl,v2 (by omega)]
    have h:=of_decide_eq_true h
    clear v2 v3 v4 g hn0
    generalize (nums s).getD 0 0=a at *
    generalize (nums s).getD 1 0=b at *
    generalize (nums s).getD 2 0=c at *
    generalize (nums s).getD 3 0=d at *
    have g0:=g0 (by omega)
    have g1:=g1 (by omega)
    have hw:194≤a∧a≤223∧nu=(1,128,191):=by
     rcases hw with ⟨h1,h2,hn⟩|⟨h1,hn⟩|⟨h1,hn⟩|⟨h1,h2,h3,hn⟩|⟨h1,hn⟩|⟨h1,hn⟩|⟨h1,h2,hn⟩|⟨h1,hn⟩
     ·exact⟨h1,h2,hn⟩
     all_goals (subst hn;first|exact absurd O h1|(simp only at h h1;omega))
    obtain⟨hw1,hw2,hn⟩:=hw
    subst hn
    simp only at h2
    clear h3 h h1 g2 g3 hl
    unfold Lib.decodeN
    rw[if_neg (by omega),if_pos (by omega),if_pos (by omega)]
    simp only
    omega
   ·rw[if_neg h3] at h ⊢
    have h3:=Classical.not_not.1 h3
    by_cases h4:¬(3≤nu.1∧4≤s.size∧128≤(nums s).getD 3 0∧(nums s).getD 3 0≤191)
    ·rw[if_pos h4] at h ⊢
     rw[show ((3:Int),decide (nu.1<3)).1.toNat=3 from rfl,v3 (by omega)]
     have h:=of_decide_eq_true h
     clear v2 v3 v4 g hn0
     generalize (nums s).getD 0 0=a at *
     generalize (nums s).getD 1 0=b at *
     generalize (nums s).getD 2 0=c at *
     generalize (nums s).getD 3 0=d at *
     have g0:=g0 (by omega)
     have g1:=g1 (by omega)
     have g2:=g2 (by omega)
     have hw:224≤a∧a≤239∧128≤b∧b≤191∧(a=224→160≤b)∧(a=237→b≤159):=by
      rcases hw with ⟨h1,h2,hn⟩|⟨h1,hn⟩|⟨h1,hn⟩|⟨h1,h2,h3,hn⟩|⟨h1,hn⟩|⟨h1,hn⟩|⟨h1,h2,hn⟩|⟨h1,hn⟩
      all_goals (subst hn;first|exact absurd O h1|(simp only at h h1 h2 h3;omega))
     clear h4 h h1 g3 hl
     unfold Lib.decodeN
     rw[if_neg (by omega),if_neg (by omega),if_pos (by omega),if_pos (by omega)]
     simp only
     omega
    ·rw[if_neg h4] at h ⊢
     have h4:=Classical.not_not.1 h4
     rw[show ((4:Int),true).1.toNat=4 from rfl,v4 (by omega)]
     clear v2 v3 v4 g hn0 h
     generalize (nums s).getD 0 0=a at *
     generalize (nums s).getD 1 0=b at *
     generalize (nums s).getD 2 0=c at *
     generalize (nums s).getD 3 0=d at *
     have g0:=g0 (by omega)
     have g1:=g1 (by omega)
     have g2:=g2 (by omega)
     have g3:=g3 (by omega)
     have hw:240≤a∧a≤244∧128≤b∧b≤191∧(a=240→144≤b)∧(a=244→b≤143):=by
      rcases hw with ⟨h1,h2,hn⟩|⟨h1,hn⟩|⟨h1,hn⟩|⟨h1,h2,h3,hn⟩|⟨h1,hn⟩|⟨h1,hn⟩|⟨h1,h2,hn⟩|⟨h1,hn⟩
      all_goals (subst hn;first|exact absurd O h1|(simp only at h1 h2 h3 h4;omega))
     clear h1 hl
     unfold Lib.decodeN
     rw[if_neg (by omega),if_neg (by omega),if_neg (by omega),if_pos (by omega),if_pos (by omega)]
     simp only
     omega
theorem CE5 {L:List Int} (h:1≤L.length):wfU (L.take 1)=decide (0≤L.getD 0 0∧L.getD 0 0<128):=by
 match L,h with
 | a::r,_=>rfl
theorem CE6 {L:List Int} (h:2≤L.length):wfU (L.take 2)=decide (194≤L.getD 0 0∧L.getD 0 0≤223∧128≤L.getD 1 0∧L.getD 1 0≤191):=by
 match L,h with
 | a::b::r,_=>rfl
theorem CE9 {L:List Int} (h:3≤L.length):wfU (L.take 3)=decide (224≤L.getD 0 0∧L.getD 0 0≤239∧128≤L.getD 1 0∧L.getD 1 0≤191∧128≤L.getD 2 0∧L.getD 2 0≤191∧(L.getD 0 0=224→160≤L.getD 1 0)∧(L.getD 0 0=237→L.getD 1 0≤159)):=by
 match L,h with
 | a::b::c::r,_=>rfl
theorem CD8 {L:List Int} (h:4≤L.length):wfU (L.take 4)=decide (240≤L.getD 0 0∧L.getD 0 0≤244∧128≤L.getD 1 0∧L.getD 1 0≤191∧128≤L.getD 2 0∧L.getD 2 0≤191∧128≤L.getD 3 0∧L.getD 3 0≤191∧(L.getD 0 0=240→144≤L.getD 1 0)∧(L.getD 0 0=244→L.getD 1 0≤143)):=by
 match L,h with
 | a::b::c::d::r,_=>rfl
theorem B25 (L:List Int) (h0:¬L.getD 0 0<128) (k:Nat) (h1:1≤k) (h2:k≤L.length) (h4:k≤4):wfU (L.take k)=((longU L).2&&decide ((k:Int)=(longU L).1)):=by
 have hk:k=1∨k=2∨k=3∨k=4:=by omega
 unfold longU
 generalize hn0:needU (L.getD 0 0)=nu
 have hw:=AD5 (L.getD 0 0)
 rw[hn0] at hw
 refine Bool.eq_iff_iff.2 ?_
 rcases hk with rfl|rfl|rfl|rfl
 ·rw[CE5 h2,decide_eq_true_eq]
  generalize L.getD 0 0=a at *
  generalize L.getD 1 0=b at *
  generalize L.getD 2 0=c at *
  generalize L.getD 3 0=d at *
  rcases hw with ⟨h1,h2,hn⟩|⟨h1,hn⟩|⟨h1,hn⟩|⟨h1,h2,h3,hn⟩|⟨h1,hn⟩|⟨h1,hn⟩|⟨h1,h2,hn⟩|⟨h1,hn⟩<;>subst hn<;>simp only at * <;>(repeat' split)<;>(simp;omega)
 ·rw[CE6 h2,decide_eq_true_eq]
  generalize L.getD 0 0=a at *
  generalize L.getD 1 0=b at *
  generalize L.getD 2 0=c at *
  generalize L.getD 3 0=d at *
  rcases hw with ⟨h1,h2,hn⟩|⟨h1,hn⟩|⟨h1,hn⟩|⟨h1,h2,h3,hn⟩|⟨h1,hn⟩|⟨h1,hn⟩|⟨h1,h2,hn⟩|⟨h1,hn⟩<;>subst hn<;>simp only at * <;>(repeat' split)<;>(first|(simp;omega)|(simp_all;done))
 ·rw[CE9 h2,decide_eq_true_eq]
  generalize L.getD 0 0=a at *
  generalize L.getD 1 0=b at *
  generalize L.getD 2 0=c at *
  generalize L.getD 3 0=d at *
  rcases hw with ⟨h1,h2,hn⟩|⟨h1,hn⟩|⟨h1,hn⟩|⟨h1,h2,h3,hn⟩|⟨h1,hn⟩|⟨h1,hn⟩|⟨h1,h2,hn⟩|⟨h1,hn⟩<;>subst hn<;>simp only at * <;>(repeat' split)<;>(simp;omega)
 ·rw[CD8 h2,decide_eq_true_eq]
  generalize L.getD 0 0=a at *
  generalize L.getD 1 0=b at *
  generalize L.getD 2 0=c at *
  generalize L.getD 3 0=d at *
  rcases hw with ⟨h1,h2,hn⟩|⟨h1,hn⟩|⟨h1,hn⟩|⟨h1,h2,h3,hn⟩|⟨h1,hn⟩|⟨h1,hn⟩|⟨h1,h2,hn⟩|⟨h1,hn⟩<;>subst hn<;>simp only at * <;>(repeat' split)<;>(simp;omega)
theorem Ap7 (L:List Int) (h:L≠[]):0≤(longU L).1∧(longU L).1≤4∧(longU L).1≤L.length∧((longU L).2=true→2≤(longU L).1)∧((longU L).2=false→(longU L).1≤3):=by
 have hl:1≤L.length:=by cases L;exact absurd O h;simp
 unfold longU
 split
 ·simp
 ·split
  ·simp;omega
  ·rename_i _ h2
   have h2:=Classical.not_not.1 h2
   split
   ·simp;omega
   ·rename_i h3
    have h3:=Classical.not_not.1 h3
    split
    ·simp;omega
    ·rename_i h4
     have h4:=Classical.not_not.1 h4
     simp;omega
def stepU (L:List Int):Option (Int×Nat):=
 if L.getD 0 0<128 then some (L.getD 0 0,1)
 else if (longU L).2=true then some (valU (L.take (longU L).1.toNat),(longU L).1.toNat)
 else if 0<(longU L).1∧(longU L).1=L.length then none
 else some (65533,(max (longU L).1 1).toNat)
def runU:Nat→List Int→List Int×List Int
 | 0,l=>(l,[])
 | m+1,l=>if l=[] then ([],[]) else match stepU l with
   | none=>(l,[])
   | some p=>((runU m (l.drop p.2)).1,p.1::(runU m (l.drop p.2)).2)
theorem At4 (m:Nat):runU m []=([],[]):=by cases m<;>simp [runU]
theorem A95 (m:Nat) {l:List Int} (h:l≠[]) (h2:stepU l=none):runU m l=(l,[]):=by
 cases m with
 | zero=>rfl
 | succ m=>rw[runU,if_neg h,h2]
theorem Al0 {m:Nat} {l:List Int} {e:Int} {n:Nat} (hm:0<m) (h:l≠[]) (h2:stepU l=some (e,n)):runU m l=((runU (m-1) (l.drop n)).1,e::(runU (m-1) (l.drop n)).2):=by
 obtain⟨k,rfl⟩:∃k,m=k+1:=⟨m-1,by omega⟩
 rw[runU,if_neg h,h2];rfl
def feedU (p s:ByteArray):ByteArray×List Int×Int:=
 if chkU (nums p)≠0 then (⟨#[]⟩,[],chkU (nums p)) else (strOfNums (runU (p++s).size (nums (p++s))).1,(runU (p++s).size (nums (p++s))).2,0)
theorem Ax9 (r:ByteArray) (k:Nat):nums (r.extract k r.size)=(nums r).drop k:=by
 rw[AV1,←nums_length,List.take_of_length_le (by simp)]
theorem BW1 (L:List Int) (hb:0≤L.getD 0 0) (h0:¬L.getD 0 0<128) (h:(longU L).2=true) (hl:L≠[]):0≤valU (L.take (longU L).1.toNat)∧valU (L.take (longU L).1.toNat)≤20000000:=by
 obtain⟨h1,h2,h3,h4,-⟩:=Ap7 L hl
 have h4:=h4 h
 have hk:(longU L).1=2∨(longU L).1=3∨(longU L).1=4:=by omega
 rcases hk with hk|hk|hk
 ·rw[hk] at h3 ⊢;rw[show (2:Int).toNat=2 from rfl,Bb0 (by omega)];omega
 ·rw[hk] at h3 ⊢;rw[show (3:Int).toNat=3 from rfl,BV3 (by omega)];omega
 ·rw[hk] at h3 ⊢;rw[show (4:Int).toNat=4 from rfl,BV0 (by omega)];omega
section
attribute [local irreducible] SW SL SQ AtQ SV SC BB LD PK Yields SO SOT SOA SY SP SPT SPA
theorem CA8 (G:Ctx) (H:List Ent) (hT:∀w,Holds G H w→Lib.Utf8Tabs 0 1 w) (s:ByteArray):SV Tryz.prog G 29 [.string s] H (.tuple #[.int .i32 (Lib.decodeGo s).1,.int .i64 (Lib.decodeGo s).2]):=
 u6 (l8 Tryz.func29 rfl rfl) fun w hw=>Tryz.utf8_DecodeRuneInString s w (hT w hw)
theorem Aq7 (G:Ctx) (H:List Ent) (hT:∀H w,Holds G H w→Lib.Utf8Tabs 0 1 w) (p s:ByteArray) (hp:p.size≤2000000) (hs:s.size≤2000000):SC Tryz.prog G 12 [.string p,.string s] H (fun v H'=>∃a' c',v= .tuple #[.string (feedU p s).1,.slice a' (feedU p s).2.1.length c',.int .i64 (feedU p s).2.2]∧H'= .own 3 1 a' (feedU p s).2.1.length c' (ints (feedU p s).2.1)::H):=by
 have cC:=fun H=>Ak0 G H p (by omega)
 have cD:=fun H r=>CA8 G H (hT H) r
 have cL:=fun H r h hm=>Ap9 G H r h hm
 by_cases hc:chkU (nums p)≠0
 ·have e:feedU p s=(⟨#[]⟩,[],chkU (nums p)):=if_pos hc
  rw[e]
  generalize chkU (nums p)=q at *
  clear e
  refine I7 Tryz.func12 O O O O O ?_
  repeat' (first|(apply E8;first|(apply A8;refine A9 ?_)|(apply C8;refine D7 O O ?_)|(apply E5;refine F7 O O O ?_;refine F9 O ?_)|(apply D5;refine D9 O O ?_)|(apply H5;refine H6 O O O (cC _) O O ?_))|(apply D6)|(apply I4)|(apply A7)|(refine G5 O ?_;apply Y7<;>intro hq<;>(try (exfalso;omega)))|(apply C9)|(apply J8))
  exact I8 (.own 3 1 none 0 0 []::H) (.inr O) O (fun _ hw=>hw.nilrow _ _) ⟨_,_,O,O⟩
 ·have e:feedU p s=(strOfNums (runU (p++s).size (nums (p++s))).1,(runU (p++s).size (nums (p++s))).2,0):=if_neg hc
  rw[e]
  clear e
  have hc:=Classical.not_not.1 hc
  rw[hc] at cC
  have hcat:p.size+s.size≤9223372036854775807:=by omega
  obtain⟨t,ht⟩:∃t,p++s=t:=⟨_,rfl⟩
  have htz:t.size≤4000000:=by rw[←ht,ByteArray.size_append];omega
  rw[ht]
  refine I7 Tryz.func12 O O O O O ?_
  repeat' (first|(apply E8;first|(apply A8;refine A9 ?_)|(apply C8;refine D7 O O ?_)|(apply E5;refine F7 O O O ?_;first|(refine AD4 ht hcat ?_)|(refine F9 O ?_))|(apply D5;refine D9 O O ?_)|(apply H5;refine H6 O O O (cC _) O O ?_))|(apply D6)|(apply G8)|(apply F3)|(apply A7)|(refine G5 O ?_;apply H7)|(apply C9))
  refine R7 (α:=Nat×ByteArray×List Int×Option Addr×Nat) (fun g=>[(1,.string g.2.1),(8,.slice g.2.2.2.1 g.2.2.1.length g.2.2.2.2)]) (fun g=> .own 3 1 g.2.2.2.1 g.2.2.1.length g.2.2.2.2 (ints g.2.2.1)::H)
   (fun g=>g.2.1.size≤g.1∧g.2.2.1.length+g.2.1.size≤t.size∧runU t.size (nums t)=((runU g.1 (nums g.2.1)).1,g.2.2.1++(runU g.1 (nums g.2.1)).2)) (fun g=>g.2.1.size) (t.size,t,[],none,0) ⟨Nat.le_refl _,by simp,rfl⟩ Q7 (fun _ hw=>(hw.nilrow _ _).subs (by repeat (first|refine Subs.cons (by repeat constructor) ?_ |exact Subs.sub O0))) ?_
  rintro ⟨m,r,X,ao,co⟩ ⟨hr,hx,hm⟩
  dsimp only at hr hx hm ⊢
  by_cases hr0:r=⟨#[]⟩
  ·subst hr0
   have hv:runU t.size (nums t)=([],X):=by rw[hm,show nums ⟨#[]⟩=[] from rfl,At4];simp
   rw[hv]
   clear hm hv
   repeat' (first|(apply E8;first|(apply A8;refine A9 ?_)|(apply C8;refine D7 O O ?_)|(apply E5;refine F7 O O O ?_;refine AM3 ?_)|(apply D5;refine D9 O O ?_))|(apply D6)|(apply I4)|(apply O7)|(apply A7)|(refine G5 O ?_;apply H7)|(apply C9)|(apply K3)|(apply K4))
   exact AI9 _ (.inr O) O (List.Sublist.refl _) ⟨_,_,O,O⟩
  ·have hl:=nums_length r
   have hz:0<r.size:=Nat.pos_of_ne_zero fun e=>hr0 (A35 e)
   have hrn:nums r≠[]:=fun e=>by rw[e] at hl;simp at hl;omega
   have hb0:0≤(nums r).getD 0 0∧(nums r).getD 0 0≤255:=by
    cases hq:nums r with
    | nil=>exact absurd hq hrn
    | cons x t=>exact AE8 r x (by rw[hq];exact List.mem_cons_self)
   obtain⟨x,hx1⟩:∃x,(nums r).getD 0 0=x:=⟨_,rfl⟩
   have hx0:(nums r).getD (0:Int).toNat 0=x:=hx1
   by_cases hlow:(nums r).getD 0 0<128
   ·have hst:stepU (nums r)=some ((nums r).getD 0 0,1):=if_pos hlow
    rw[Al0 (by omega) hrn hst] at hm
    obtain⟨r1,hr1⟩:∃r1,r.extract (1:Int).toNat (r.size:Int).toNat=r1:=⟨_,rfl⟩
    have hn1:nums r1=(nums r).drop 1:=by rw[←hr1];exact Ax9 r 1
    have hl1:r1.size=r.size-1:=by rw[←nums_length,hn1,List.length_drop,hl]
    rw[←hn1] at hm
    rw[hx1] at hb0 hlow hm
    have Hm:=Lib.hid hm
    clear hm hst
    repeat' (first|(apply E8;first|(apply A8;refine A9 ?_)|(apply C8;refine D7 O O ?_)|(apply E5;refine F7 O O O ?_;first|(refine AM3 ?_)|(refine F9 O ?_))|(apply D5;refine D9 O O ?_)|(apply V5;refine Y5 (l9 hx0 O O O (by omega) (by omega)) O ?_))|(apply D6)|(apply G8)|(apply I4)|(apply O7)|(apply F3)|((fail_if_success (refine J5 (id:=8) ?_));apply A7)|(refine G5 O ?_;first|(apply E9<;>intro hq<;>(try (exfalso;omega)))|(apply AF5<;>intro hq))|(apply C9)|(apply K3)|(apply K4))
    all_goals (first|(exact absurd (of_decide_eq_true (by assumption)) hr0)|skip)
    refine Z6 H J3 ?_
    repeat' (first|(apply E8;first|(apply A8;refine A9 ?_)|(apply V5;refine Y5 (l9 hx0 O O O (by omega) (by omega)) O ?_)|(apply K5;refine U9 O O O O (by (rfl)) (by (rfl)) (by omega) O O (fun _ _=>?_))|(apply j3;refine R8 O O O O O O O O O O (fun _=>?_)))|(apply Q0;refine N8 (k:=0) J3 ?_)|(apply U3;first|(refine L8 O ?_)|(refine O4 O O O O (by kernel_rfl) (by decide+kernel) (by decide+kernel) ?_;first|(apply O1;refine G9 (P9 O O) ?_)|(apply AA4;refine G9 (o6 O O) ?_)|(apply Ar4;refine G9 (AC1 (k:= .i64) O O ⟨by omega,by omega⟩) ?_)|(apply Aa7;refine G9 (Ao7 O O O O (by omega) (by omega) (by omega)) ?_))|(refine O5 O ?_)|(refine N9 (by decide+kernel) ?_)|(refine Q6 (by kernel_rfl) ?_))|(apply V3;first|(refine Q5 O)|(refine U1 (by decide+kernel) ?_)|(refine Q3 O ?_ ?_))|(apply O7)|(apply C9)|(apply K3)|(apply K4))
    rename_i bx ax cx
    refine J6 (m-1,r1,X++[x],ax,cx) ⟨⟨by dsimp only;omega,by simp;omega,by dsimp only;rw[Hm.out];simp⟩,by dsimp only;omega⟩ ?_ ?_
    ·dsimp only
     rw[show (X++[x]).length=X.length+1 from by simp,←hr1]
     exact Q7
    ·dsimp only
     rw[show (X++[x]).length=X.length+1 from by simp,show ints (X++[x])=ints X++[.int .i64 x] from by simp [ints]]
     exact J3
   ·have c1:=fun H=>cL H r hz (by omega)
    obtain⟨k0,k4,kl,kw,kn⟩:=Ap7 (nums r) hrn
    rw[hl] at kl
    obtain⟨k,hk⟩:∃k,(longU (nums r)).1=k:=⟨_,rfl⟩
    rw[hk] at k0 k4 kl kw kn
    have hmx:max k 1=if k<1 then 1 else k:=by split<;>omega
    have hexp:∀e n,stepU (nums r)=some (e,n)→0<n→n≤r.size→∃r1,r.extract n r.size=r1∧r1.size=r.size-n∧runU t.size (nums t)=((runU (m-1) (nums r1)).1,(X++[e])++(runU (m-1) (nums r1)).2):=fun e n h h1 h2=>by
     have hn1:=Ax9 r n
     refine⟨_,O,by rw[←nums_length,hn1,List.length_drop,hl],?_⟩
     rw[hm,Al0 (by omega) hrn h,hn1]
     simp
    by_cases hw:(longU (nums r)).2=true
    ·have hst:stepU (nums r)=some (valU ((nums r).take k.toNat),k.toNat):=by unfold stepU;rw[if_neg hlow,if_pos hw,hk]
     have k2:=kw hw
     obtain⟨r1,hr1,hl1,hm1⟩:=hexp _ _ hst (by omega) (by omega)
     have hv:=BW1 (nums r) hb0.1 hlow hw hrn
     have c2:=fun H=>cD H r
     rw[BX1 r hw] at c2
     rw[hk] at c1 c2 hv
     rw[hw] at c1
     generalize valU ((nums r).take k.toNat)=V at *
     rw[hx1] at hlow hb0
     have hr1':r.extract (max k 1).toNat (r.size:Int).toNat=r1:=by rw[show (max k 1).toNat=k.toNat from by omega];exact hr1
     have Hm:=Lib.hid hm1
     clear hm hst hexp kw kn hw hm1
     repeat' (first|(apply E8;first|(apply A8;refine A9 ?_)|(apply C8;refine D7 O O ?_)|(apply E5;refine F7 O O O ?_;first|(refine AM3 ?_)|(refine F9 O ?_))|(apply D5;refine D9 O O ?_)|(apply U7;refine X7 (M0 O O O) O ?_)|(apply AA3;refine AA8 (AC1 (k:= .i64) O O ⟨by omega,by omega⟩) O ?_)|(apply V5;refine Y5 (l9 hx0 O O O (by omega) (by omega)) O ?_)|(apply H5;first|refine H6 O O O (c1 _) O O ?_ |refine H6 O O O (c2 _) O O ?_)|(apply K5;first|(refine s_call (AS6 O O O) O ?_)|refine U9 O O O O (by (rfl)) (by (rfl)) (by omega) O O (fun _ _=>?_))|(apply j3;refine R8 O O O O O O O O O O (fun _=>?_))|(apply r9;refine AL0 (AD6 hr1' O O O O (by omega) (by omega) (by omega)) O ?_))|(apply D6)|(apply G8)|(apply I4)|(apply O7)|(apply F3)|(apply A7)|(refine G5 O ?_;first|(apply I1)|(apply E9<;>intro hq<;>(try (exfalso;omega)))|(apply AF5<;>intro hq))|(apply C9)|(apply K3)|(apply H9)|(apply K4))
     all_goals (first|(exact absurd (of_decide_eq_true (by assumption)) hr0)|skip)
     rename_i bx ax cx
     refine J6 (m-1,r1,X++[V],ax,cx) ⟨⟨by dsimp only;omega,by simp;omega,Hm.out⟩,by dsimp only;omega⟩ ?_ ?_
     ·dsimp only
      rw[show (X++[V]).length=X.length+1 from by simp]
      exact Q7
     ·dsimp only
      rw[show (X++[V]).length=X.length+1 from by simp,show ints (X++[V])=ints X++[.int .i64 V] from by simp [ints]]
      exact J3
    ·have hw:=Bool.eq_false_iff.2 hw
     have kn:=kn hw
     rw[hk] at c1
     rw[hw] at c1
     by_cases hend:0<k∧k=r.size
     ·have hst:stepU (nums r)=none:=by unfold stepU;rw[if_neg hlow,if_neg (by rw[hw];decide),hk,hl,if_pos hend]
      have hv:runU t.size (nums t)=(nums r,X):=by rw[hm,A95 _ hrn hst];simp
      rw[hv]
      dsimp only
      rw[AK0]
      rw[hx1] at hlow hb0
      obtain⟨he1,he2⟩:=hend
      clear hm hst hexp kw kn hw hv
      repeat' (first|(apply E8;first|(apply A8;refine A9 ?_)|(apply C8;refine D7 O O ?_)|(apply E5;refine F7 O O O ?_;first|(refine AM3 ?_)|(refine F9 O ?_))|(apply D5;refine D9 O O ?_)|(apply I6;refine J4 O O ?_;apply P7;refine P6 O ?_)|(apply U7;refine X7 (M0 O O O) O ?_)|(apply V5;refine Y5 (l9 hx0 O O O (by omega) (by omega)) O ?_)|(apply H5;refine H6 O O O (c1 _) O O ?_)|(apply K5;refine s_call (U2 O O) O ?_)|(apply I5;refine J9 O O O O ?_;first|(apply I1)|(apply E9<;>intro hq<;>(try (exfalso;omega)))))|(apply D6)|(apply G8)|(apply I4)|(apply O7)|(apply F3)|(apply A7)|(refine G5 O ?_;first|(apply H7)|(apply E9<;>intro hq<;>(try (exfalso;omega)))|(apply AF5<;>intro hq))|(apply C9)|(apply J8)|(apply K3)|(apply U5)|(apply K4))
      all_goals (first|(exact absurd (of_decide_eq_true (by assumption)) hr0)|skip)
      exact AI9 _ (.inr O) O (List.Sublist.refl _) ⟨_,_,O,O⟩
     ·have hst:stepU (nums r)=some (65533,(max k 1).toNat):=by unfold stepU;rw[if_neg hlow,if_neg (by rw[hw];decide),hk,hl,if_neg hend]
      obtain⟨r1,hr1',hl1,hm1⟩:=hexp _ _ hst (by omega) (by omega)
      have hr1':r.extract (max k 1).toNat (r.size:Int).toNat=r1:=hr1'
      rw[hx1] at hlow hb0
      have Hm:=Lib.hid hm1
      clear hm hst hexp kw kn hw hm1
      by_cases hk0:0<k
      ·have hk1:¬k=r.size:=fun h=>hend ⟨hk0,h⟩
       clear hend
       repeat' (first|(apply E8;first|(apply A8;refine A9 ?_)|(apply C8;refine D7 O O ?_)|(apply E5;refine F7 O O O ?_;first|(refine AM3 ?_)|(refine F9 O ?_))|(apply D5;refine D9 O O ?_)|(apply I6;refine J4 O O ?_;apply P7;refine P6 O ?_)|(apply U7;refine X7 (M0 O O O) O ?_)|(apply V5;refine Y5 (l9 hx0 O O O (by omega) (by omega)) O ?_)|(apply H5;refine H6 O O O (c1 _) O O ?_)|(apply K5;first|(refine s_call (AS6 O O O) O ?_)|refine s_call (U2 O O) O ?_ |refine U9 O O O O (by (rfl)) (by (rfl)) (by omega) O O (fun _ _=>?_))|(apply j3;refine R8 O O O O O O O O O O (fun _=>?_))|(apply r9;refine AL0 (AD6 hr1' O O O O (by omega) (by omega) (by omega)) O ?_)|(apply I5;refine J9 O O O O ?_;first|(apply I1)|(apply E9<;>intro hq<;>(try (exfalso;omega)))))|(apply D6)|(apply G8)|(apply I4)|(apply O7)|(apply F3)|(apply A7)|(refine G5 O ?_;first|(apply H7)|(apply E9<;>intro hq<;>(try (exfalso;omega)))|(apply AF5<;>intro hq))|(apply C9)|(apply K3)|(apply H9)|(apply K4))
       all_goals (first|(exact absurd (of_decide_eq_true (by assumption)) hr0)|skip)
       rename_i bx ax cx
       refine J6 (m-1,r1,X++[65533],ax,cx) ⟨⟨by dsimp only;omega,by simp;omega,Hm.out⟩,by dsimp only;omega⟩ ?_ ?_
       ·dsimp only
        rw[show (X++[(65533:Int)]).length=X.length+1 from by simp]
        exact Q7
       ·dsimp only
        rw[show (X++[(65533:Int)]).length=X.length+1 from by simp,show ints (X++[(65533:Int)])=ints X++[.int .i64 65533] from by simp [ints]]
        exact J3
      ·clear hend
       repeat' (first|(apply E8;first|(apply A8;refine A9 ?_)|(apply C8;refine D7 O O ?_)|(apply E5;refine F7 O O O ?_;first|(refine AM3 ?_)|(refine F9 O ?_))|(apply D5;refine D9 O O ?_)|(apply I6;refine J4 O O ?_;apply M6;refine M7 O ?_)|(apply U7;refine X7 (M0 O O O) O ?_)|(apply V5;refine Y5 (l9 hx0 O O O (by omega) (by omega)) O ?_)|(apply H5;refine H6 O O O (c1 _) O O ?_)|(apply K5;first|(refine s_call (AS6 O O O) O ?_)|refine U9 O O O O (by (rfl)) (by (rfl)) (by omega) O O (fun _ _=>?_))|(apply j3;refine R8 O O O O O O O O O O (fun _=>?_))|(apply r9;refine AL0 (AD6 hr1' O O O O (by omega) (by omega) (by omega)) O ?_)|(apply I5;refine J9 O O O O ?_;first|(apply H7)|(apply E9<;>intro hq<;>(try (exfalso;omega)))))|(apply D6)|(apply G8)|(apply I4)|(apply O7)|(apply F3)|(apply A7)|(refine G5 O ?_;first|(apply H7)|(apply E9<;>intro hq<;>(try (exfalso;omega)))|(apply AF5<;>intro hq))|(apply C9)|(apply K3)|(apply H9)|(apply K4))
       all_goals (first|(exact absurd (of_decide_eq_true (by assumption)) hr0)|skip)
       rename_i bx ax cx
       refine J6 (m-1,r1,X++[65533],ax,cx) ⟨⟨by dsimp only;omega,by simp;omega,Hm.out⟩,by dsimp only;omega⟩ ?_ ?_
       ·dsimp only
        rw[show (X++[(65533:Int)]).length=X.length+1 from by simp]
        exact Q7
       ·dsimp only
        rw[show (X++[(65533:Int)]).length=X.length+1 from by simp,show ints (X++[(65533:Int)])=ints X++[.int .i64 65533] from by simp [ints]]
        exact J3
end
end Go.Proofs.YtmmnimagbnlcmaaGreatDoor
namespace Go.Fw
def trN (d:ByteArray):Nat→Nat
 | 0=>0
 | m+1=>if (nums d).getD m 0=0 then trN d m else m+1
end Go.Fw
namespace Go.Proofs.YtmmnimagbnlcmaaGreatDoor
section
attribute [local irreducible] SW SL SQ AtQ SV SC BB LD PK Yields SO SOT SOA SY SP SPT SPA
theorem A50 (G:Ctx) (H:List Ent) (s0:ByteArray) (q:Bool):SV Tryz.prog G 73 [.agg #[.string s0,.bool q]] H (.int .i64 (if 1024≤s0.size then 2 else 0)):=by
 refine P8 Tryz.func73 O O O O O ?_
 repeat' (first|(apply E8;first|(apply A8;refine A9 ?_)|(apply E5;refine F7 O O O ?_;refine F9 O ?_)|(apply F5;refine F8 O O ?_;refine F4 O ?_)|(apply D5;refine D9 O O ?_)|(apply G6;refine G7 (D8 O O) O ?_)|(apply K5;refine s_call (U2 O O) O ?_)|(apply K6;refine L9 O O O O O O (fun _=>?_)))|(apply D6)|(apply G8)|(apply I4)|(apply A7)|(refine G5 O ?_;apply E9<;>intro hq<;>(try (exfalso;omega)))|(apply C9)|(apply J8))
 ·refine N7 (by (exact .inr O)) O O0 ?_
  rw[if_pos (by omega)]
  rfl
 ·refine N7 (by (exact .inr O)) O O0 ?_
  rw[if_neg (by omega)]
  rfl
end
end Go.Proofs.YtmmnimagbnlcmaaGreatDoor
namespace Go.Fw
abbrev Tk:=Int×Int×Int×ByteArray
def tokC (t:Tk):List Value:=[.int .i64 t.1,.int .i64 t.2.1,.int .i64 t.2.2.1,.string t.2.2.2]
instance :En tokC 4:=⟨fun _=>rfl⟩
def toks (L:List Tk):List Value:=L.flatMap tokC
theorem Av3 (L:List Tk) (x:Tk):toks (L++[x])=toks L++tokC x:=BH4 L x
def AV9 (l:List UInt8):List UInt8:=l.flatMap fun b=>if b=255 then [255,255] else [b]
def escS (d:ByteArray):ByteArray:=⟨(AV9 d.data.toList).toArray⟩
theorem Bj0 (l:List UInt8):(AV9 l).length≤2 * l.length:=by
 unfold AV9
 induction l with
 | nil=>exact Nat.le_refl _
 | cons b l ih=>
   rw[List.flatMap_cons,List.length_append,List.length_cons]
   have:(if b=255 then [(255:UInt8),255] else [b]).length≤2:=by split<;>simp
   omega
section
open Go.Lib
theorem Ad4 (c:UInt8) (new:List UInt8):∀s:List UInt8,replaceK [c] new (s.count c) s=s.flatMap (fun b=>if b=c then new else [b])
 | []=>rfl
 | b::l=>by
   have ih:=Ad4 c new l
   rw[List.flatMap_cons]
   by_cases h:b=c
   ·subst h
    have hi:index (b::l) [b]=((0:Nat):Int):=by unfold index;simp
    rw[List.count_cons_self,replaceK_hit _ _ _ _ _ hi,if_pos rfl,←ih]
    simp
   ·rw[List.count_cons_of_ne h,if_neg h]
    cases hc:l.count c with
    | zero=>
      rw[hc] at ih
      rw[←ih]
      rfl
    | succ k=>
      rw[hc] at ih
      obtain⟨i,hi⟩:=index_of_count (s:=l) (old:=[c]) (by rw[count_one,hc];omega)
      have hi2:index (b::l) [c]=((i+1:Nat):Int):=by
       unfold index
       have hp:([c].isPrefixOf (b::l))=false:=by simp only[List.isPrefixOf,Bool.and_true];exact beq_eq_false_iff_ne.2 fun e=>h e.symm
       rw[hp,hi]
       simp
      rw[replaceK_hit _ _ _ _ _ hi2,←ih,replaceK_hit _ _ _ _ _ hi]
      simp
theorem Aq9 (c:UInt8) (new s:List UInt8) (h:[c]≠new):replaceAll s [c] new=s.flatMap (fun b=>if b=c then new else [b]):=by
 unfold replaceAll replace replaceNum
 rw[if_neg (by simpa using h),if_pos (.inl (by decide)),count_one,Ad4]
def outB (b:UInt8):List UInt8:=if b=10 then [13,10] else if b=13 then [13,0] else [b]
def mIn:Bool→List UInt8→Bool×List UInt8
 | cr,[]=>(cr,[])
 | true,c::l=>if c=10 then ((mIn false l).1,10::(mIn false l).2) else if c=0 then ((mIn false l).1,13::(mIn false l).2) else if c=13 then ((mIn true l).1,13::(mIn true l).2) else ((mIn false l).1,13::c::(mIn false l).2)
 | false,c::l=>if c=13 then mIn true l else ((mIn false l).1,c::(mIn false l).2)
end
structure Rc where
 mode:Int
 cmd:Int
 opt:Int
 over:Bool
 buf:List Int
 data:List Int
 out:List Tk
abbrev noB:ByteArray:=⟨#[]⟩
def dtok (l:List Int):Tk:=(1,0,0,strOfNums l)
end Go.Fw
namespace Go.Fw.Rc
def flush (r:Rc):Rc:=if r.data=[] then r else {r with data:=[],out:=r.out++[dtok r.data]}
def tok (r:Rc) (t:Tk):Rc:={r.flush with out:=r.flush.out++[t]}
def sub (r:Rc) (c:Int):Rc:=if r.buf.length=4096 then {r with buf:=[],over:=true} else if r.over=true then r else {r with buf:=r.buf++[c]}
def finT (r:Rc) (c:Int):Tk:=if c=240 then (if r.over=true then (5,250,r.opt,noB) else (4,0,r.opt,strOfNums r.buf)) else (5,c,r.opt,noB)
def fin (r:Rc) (c:Int):Rc:={r.tok (r.finT c) with mode:=0,cmd:=0,opt:=0,over:=false,buf:=[]}
def com (r:Rc) (c:Int):Rc:=
 if c=255 then {r with mode:=0,data:=r.data++[c]} else if 251≤c then {r with mode:=2,cmd:=c} else if c=250 then {r with mode:=3}
 else if 240≤c then {r.tok (2,c,0,noB) with mode:=0} else {r.tok (5,c,0,noB) with mode:=0}
def take (r:Rc) (c:Int):Rc:=
 if r.mode=0 then (if c=255 then {r with mode:=1} else {r with data:=r.data++[c]})
 else if r.mode=1 then r.com c
 else if r.mode=2 then {r.tok (3,r.cmd,c,noB) with mode:=0,cmd:=0}
 else if r.mode=3 then {r with mode:=4,opt:=c}
 else if r.mode=4 then (if c=255 then {r with mode:=5} else r.sub c)
 else if c=255 then ({r with mode:=4}:Rc).sub c else r.fin c
def words (r:Rc) (m o:Int) (acc:List Int):Rc:={r with mode:=m,opt:=o,over:=decide (4096<acc.length),buf:=if 4096<acc.length then [] else acc}
theorem t0 {r:Rc} (h:r.mode=0) (c:Int):r.take c=if c=255 then {r with mode:=1} else {r with data:=r.data++[c]}:=by unfold take;rw[if_pos h]
theorem t1 {r:Rc} (h:r.mode=1) (c:Int):r.take c=r.com c:=by unfold take;rw[if_neg (by rw[h];decide),if_pos h]
theorem t2 {r:Rc} (h:r.mode=2) (c:Int):r.take c={r.tok (3,r.cmd,c,noB) with mode:=0,cmd:=0}:=by unfold take;rw[if_neg (by rw[h];decide),if_neg (by rw[h];decide),if_pos h]
theorem t3 {r:Rc} (h:r.mode=3) (c:Int):r.take c={r with mode:=4,opt:=c}:=by unfold take;rw[if_neg (by rw[h];decide),if_neg (by rw[h];decide),if_neg (by rw[h];decide),if_pos h]
theorem t4 {r:Rc} (h:r.mode=4) (c:Int):r.take c=if c=255 then {r with mode:=5} else r.sub c:=by unfold take;rw[if_neg (by rw[h];decide),if_neg (by rw[h];decide),if_neg (by rw[h];decide),if_neg (by rw[h];decide),if_pos h]
theorem t5 {r:Rc} (h:r.mode=5) (c:Int):r.take c=if c=255 then ({r with mode:=4}:Rc).sub c else r.fin c:=by unfold take;rw[if_neg (by rw[h];decide),if_neg (by rw[h];decide),if_neg (by rw[h];decide),if_neg (by rw[h];decide),if_neg (by rw[h];decide)]
end Go.Fw.Rc
namespace Go.Fw
def Rc.push (r:Rc) (t:Tk):Rc:=if t.1=1 then {r with data:=r.data++nums t.2.2.2} else r.tok t
theorem A75 (r:Rc) (t:Tk):(r.tok t).mode=r.mode∧(r.tok t).cmd=r.cmd∧(r.tok t).opt=r.opt∧(r.tok t).over=r.over∧(r.tok t).buf=r.buf:=by
 unfold Rc.tok Rc.flush
 split<;>exact⟨O,O,O,O,O⟩
def Rc.opn (r:Rc):Option Tk:=if r.data=[] then none else some (dtok r.data)
theorem BS4 (r:Rc):r.flush.out=r.out++r.opn.toList:=by
 unfold Rc.flush Rc.opn
 split<;>simp
def p9 (l:List UInt8):List Int:=l.map fun b=>(b.toNat:Int)
theorem AO8 (a b:List UInt8):p9 (a++b)=p9 a++p9 b:=List.map_append
theorem AG4 (l:List UInt8):(p9 l).length=l.length:=List.length_map _
theorem A55 (l:List UInt8):(l.flatMap outB).length≤2 * l.length:=by
 induction l with
 | nil=>exact Nat.le_refl _
 | cons b l ih=>
   rw[List.flatMap_cons,List.length_append,List.length_cons]
   have:(outB b).length≤2:=by unfold outB;split;exact Nat.le_refl _;split;exact Nat.le_refl _;exact Nat.le_succ _
   omega
theorem Bb6 {l:List UInt8} {i:Nat} {b:UInt8} (h:l[i]? =some b):(l.take (i+1)).flatMap outB=(l.take i).flatMap outB++outB b:=by
 obtain⟨hi,rfl⟩:=List.getElem?_eq_some_iff.1 h
 rw[List.take_succ_eq_append_getElem hi,List.flatMap_append]
 simp
end Go.Fw
namespace Go.Proofs.YtmmnimagbnlcmaaGreatDoor
section
attribute [local irreducible] SW SL SQ AtQ SV SC BB LD PK Yields SO SOT SOA SY SP SPT SPA
theorem Ay2 (G:Ctx) (H:List Ent) (d:ByteArray) (hd:d.size≤1048576):SV Tryz.prog G 11 [.string d,.bool false] H (.string (strOfNums (p9 (d.data.toList.flatMap outB)))):=by
 have hdl:d.data.toList.length=d.size:=rfl
 have hln:=fun i=>A55 (d.data.toList.take i)
 refine R3 Tryz.func11 O O O O O ?_
 repeat' (first|(apply E8;first|(apply A8;refine A9 ?_)|(apply C8;refine D7 O O ?_)|(apply D5;refine D9 O O ?_)|(apply K5;refine s_call (U2 O O) O ?_))|(apply D6)|(apply G8)|(apply F3)|((fail_if_success (refine J5 (id:=5) ?_));apply A7)|(refine G5 O ?_;apply H7)|(apply C9))
 refine R7 (α:=Nat×Option Addr×Nat) (fun g=>[(0,.string d),(5,.slice g.2.1 (p9 ((d.data.toList.take g.1).flatMap outB)).length g.2.2),(10,.int .i64 d.size),(11,.int .i64 g.1)]) (fun g=> .own 5 1 g.2.1 (p9 ((d.data.toList.take g.1).flatMap outB)).length g.2.2 (octs (p9 ((d.data.toList.take g.1).flatMap outB)))::H)
  (fun g=>g.1≤d.size) (fun g=>d.size-g.1) (0,none,0) (Nat.zero_le _) Q7 (fun _ hw=>(hw.nilrow _ _).subs (by repeat (first|refine Subs.cons (by repeat constructor) ?_ |exact Subs.sub O0))) ?_
 rintro ⟨i,ai,ci⟩ hi
 dsimp only at hi ⊢
 have hli:=hln i
 rw[List.length_take] at hli
 have hul:=AG4 ((d.data.toList.take i).flatMap outB)
 by_cases hlt:(i:Int)<(d.size:Int)
 ·obtain⟨b,hb⟩:∃b,d.data.toList[i]? =some b:=⟨_,List.getElem?_eq_getElem (by omega)⟩
  have hsn:=Bb6 hb
  have hnb:(nums d).getD (i:Int).toNat 0=(b.toNat:Int):=by
   unfold nums
   rw[Int.toNat_natCast,List.getD_eq_getElem?_getD,List.getElem?_map,hb]
   rfl
  have hs0:p9 ((d.data.toList.take (i+1)).flatMap outB)=p9 ((d.data.toList.take i).flatMap outB)++p9 (outB b):=by rw[hsn,AO8]
  rw[←hul] at hli
  clear hln hsn hul
  generalize p9 ((d.data.toList.take i).flatMap outB)=L at *
  by_cases h10:b=10
  ·have hs:p9 ((d.data.toList.take (i+1)).flatMap outB)=L++[13,10]:=by rw[hs0,h10];rfl
   have hv:(b.toNat:Int)=10:=by rw[h10];rfl
   repeat' (first|(apply E8;first|(apply A8;refine A9 ?_)|(apply C8;refine D7 O O ?_)|(apply E5;refine F7 O O O ?_;first|(apply K9;refine L6 ⟨by omega,by omega⟩ ?_)|refine F9 O ?_)|(apply D5;refine D9 O O ?_)|(apply V5;refine Y5 (y9 O O O (by omega) (by omega)) O ?_)|(apply K5;refine U9 O O O O (by (rfl)) (by (rfl)) (by omega) O O (fun _ _=>?_))|(apply j3;refine R8 O O O O O O O O O O (fun _=>?_)))|(apply D6)|(apply G8)|(apply F3)|(apply A7)|(refine G5 O ?_;apply E9<;>intro hq<;>(try (exfalso;omega)))|(apply C9)|(apply H9))
   rename_i _ a2 c2
   refine J6 (i+1,a2,c2) ⟨by dsimp only;omega,by dsimp only;omega⟩ ?_ ?_
   ·dsimp only
    rw[hs,List.length_append]
    exact Q7
   ·dsimp only
    rw[hs,List.length_append,AL7]
    exact J3
  ·have hv:¬(b.toNat:Int)=10:=fun e=>h10 (UInt8.toNat_inj.1 (by show b.toNat=10;omega))
   by_cases h13:b=13
   ·have hs:p9 ((d.data.toList.take (i+1)).flatMap outB)=L++[13,0]:=by rw[hs0,h13];rfl
    have hv3:(b.toNat:Int)=13:=by rw[h13];rfl
    repeat' (first|(apply E8;first|(apply A8;refine A9 ?_)|(apply C8;refine D7 O O ?_)|(apply E5;refine F7 O O O ?_;first|(apply K9;refine L6 ⟨by omega,by omega⟩ ?_)|refine F9 O ?_)|(apply D5;refine D9 O O ?_)|(apply V5;refine Y5 (y9 O O O (by omega) (by omega)) O ?_)|(apply K5;refine U9 O O O O (by (rfl)) (by (rfl)) (by omega) O O (fun _ _=>?_))|(apply j3;refine R8 O O O O O O O O O O (fun _=>?_)))|(apply D6)|(apply G8)|(apply F3)|(apply A7)|(refine G5 O ?_;apply E9<;>intro hq<;>(try (exfalso;omega)))|(apply C9)|(apply H9))
    rename_i _ a2 c2
    refine J6 (i+1,a2,c2) ⟨by dsimp only;omega,by dsimp only;omega⟩ ?_ ?_
    ·dsimp only
     rw[hs,List.length_append]
     exact Q7
    ·dsimp only
     rw[hs,List.length_append,AL7]
     exact J3
   ·have hv3:¬(b.toNat:Int)=13:=fun e=>h13 (UInt8.toNat_inj.1 (by show b.toNat=13;omega))
    have hs:p9 ((d.data.toList.take (i+1)).flatMap outB)=L++[(nums d).getD (i:Int).toNat 0]:=by
     rw[hs0,hnb]
     unfold outB p9
     rw[if_neg h10,if_neg h13]
     rfl
    repeat' (first|(apply E8;first|(apply A8;refine A9 ?_)|(apply C8;refine D7 O O ?_)|(apply E5;refine F7 O O O ?_;first|(apply K9;refine L6 ⟨by omega,by omega⟩ ?_)|refine F9 O ?_)|(apply D5;refine D9 O O ?_)|(apply V5;refine Y5 (y9 O O O (by omega) (by omega)) O ?_)|(apply K5;refine U9 O O O O (by (rfl)) (by (rfl)) (by omega) O O (fun _ _=>?_))|(apply j3;refine R8 O O O O O O O O O O (fun _=>?_)))|(apply D6)|(apply G8)|(apply F3)|(apply A7)|(refine G5 O ?_;apply E9<;>intro hq<;>(try (exfalso;omega)))|(apply C9)|(apply H9))
    rename_i _ a2 c2
    refine J6 (i+1,a2,c2) ⟨by dsimp only;omega,by dsimp only;omega⟩ ?_ ?_
    ·dsimp only
     rw[hs,List.length_append]
     exact Q7
    ·dsimp only
     rw[hs,List.length_append,AL7]
     exact J3
 ·obtain rfl:i=d.size:=by omega
  rw[List.take_of_length_le (by omega)]
  repeat' (first|(apply E8;first|(apply A8;refine A9 ?_)|(apply C8;refine D7 O O ?_)|(apply E5;refine F7 O O O ?_;refine F9 O ?_)|(apply D5;refine D9 O O ?_)|(apply AA3;refine AA8 (AP8 (xs:=p9 (d.data.toList.flatMap outB)) O O O O) O ?_))|(apply D6)|(apply I4)|(apply O7)|(apply A7)|(refine G5 O ?_;apply E9<;>intro hq<;>(try (exfalso;omega)))|(apply C9)|(apply K3)|(apply K4))
  all_goals (refine N7 (by (exact .inr O)) O O0 ?_;rfl)
theorem A61 (G:Ctx) (H:List Ent) (cr0:Bool) (d:ByteArray) (hd:d.size≤1048577):SV Tryz.prog G 10 [.bool cr0,.string d,.bool false] H (.tuple #[.bool (mIn cr0 d.data.toList).1,.string (strOfNums (p9 (mIn cr0 d.data.toList).2))]):=by
 have hdl:d.data.toList.length=d.size:=rfl
 refine AF2 Tryz.func10 O O O O O ?_
 repeat' (first|(apply E8;first|(apply A8;refine A9 ?_)|(apply C8;refine D7 O O ?_)|(apply D5;refine D9 O O ?_)|(apply K5;refine s_call (U2 O O) O ?_))|(apply D6)|(apply G8)|(apply F3)|((fail_if_success (refine J5 (id:=5) ?_));apply A7)|(refine G5 O ?_;apply H7)|(apply C9))
 refine R7 (α:=Nat×Bool×List UInt8×Option Addr×Nat) (fun g=>[(0,.bool g.2.1),(1,.string d),(8,.slice g.2.2.2.1 (p9 g.2.2.1).length g.2.2.2.2),(17,.int .i64 d.size),(18,.int .i64 g.1)]) (fun g=> .own 5 1 g.2.2.2.1 (p9 g.2.2.1).length g.2.2.2.2 (octs (p9 g.2.2.1))::H)
  (fun g=>g.1≤d.size∧mIn cr0 d.data.toList=((mIn g.2.1 (d.data.toList.drop g.1)).1,g.2.2.1++(mIn g.2.1 (d.data.toList.drop g.1)).2)∧g.2.2.1.length≤2 * g.1) (fun g=>d.size-g.1) (0,cr0,[],none,0) ⟨Nat.zero_le _,rfl,Nat.le_refl _⟩ Q7 (fun _ hw=>(hw.nilrow _ _).subs (by repeat (first|refine Subs.cons (by repeat constructor) ?_ |exact Subs.sub O0))) ?_
 rintro ⟨i,cr,Z,ai,ci⟩ ⟨hi,hinv,hZ⟩
 dsimp only at hi hinv hZ ⊢
 have hul:=AG4 Z
 by_cases hlt:(i:Int)<(d.size:Int)
 ·obtain⟨b,hb⟩:∃b,d.data.toList[i]? =some b:=⟨_,List.getElem?_eq_getElem (by omega)⟩
  have hdr:d.data.toList.drop i=b::d.data.toList.drop (i+1):=by
   obtain⟨h1,rfl⟩:=List.getElem?_eq_some_iff.1 hb
   exact List.drop_eq_getElem_cons h1
  have hnb:(nums d).getD (i:Int).toNat 0=(b.toNat:Int):=by
   unfold nums
   rw[Int.toNat_natCast,List.getD_eq_getElem?_getD,List.getElem?_map,hb]
   rfl
  have hu:∀v:UInt8,¬b=v→¬(b.toNat:Int)=(v.toNat:Int):=fun v h e=>h (UInt8.toNat_inj.1 (by omega))
  by_cases h13:b=13
  ·have hv:(b.toNat:Int)=13:=by rw[h13];rfl
   cases cr
   ·have hst:mIn cr0 d.data.toList=((mIn true (d.data.toList.drop (i+1))).1,Z++(mIn true (d.data.toList.drop (i+1))).2):=by
     rw[hinv,hdr]
     rw[mIn,if_pos h13]
    clear hinv hdr
    repeat' (first|(apply E8;first|(apply A8;refine A9 ?_)|(apply C8;refine D7 O O ?_)|(apply E5;refine F7 O O O ?_;first|(apply K9;refine L6 ⟨by omega,by omega⟩ ?_)|refine F9 O ?_)|(apply D5;refine D9 O O ?_)|(apply V5;refine Y5 (y9 O O O (by omega) (by omega)) O ?_))|(apply D6)|(apply G8)|(apply F3)|(apply A7)|(refine G5 O ?_;first|(apply H7)|(apply E9<;>intro hq<;>(try (exfalso;omega))))|(apply C9)|(apply H9))
    exact J6 (i+1,true,Z,ai,ci) ⟨⟨by dsimp only;omega,hst,by dsimp only;omega⟩,by dsimp only;omega⟩ Q7 J3
   ·have h10:¬b=10:=by rw[h13];decide
    have h0:¬b=0:=by rw[h13];decide
    have hz:p9 (Z++[13])=p9 Z++[13]:=by rw[AO8];rfl
    have hst:mIn cr0 d.data.toList=((mIn true (d.data.toList.drop (i+1))).1,(Z++[13])++(mIn true (d.data.toList.drop (i+1))).2):=by
     rw[hinv,hdr]
     rw[mIn,if_neg h10,if_neg h0,if_pos h13]
     simp
    clear hinv hdr
    repeat' (first|(apply E8;first|(apply A8;refine A9 ?_)|(apply C8;refine D7 O O ?_)|(apply E5;refine F7 O O O ?_;first|(apply K9;refine L6 ⟨by omega,by omega⟩ ?_)|refine F9 O ?_)|(apply D5;refine D9 O O ?_)|(apply V5;refine Y5 (y9 O O O (by omega) (by omega)) O ?_)|(apply K5;refine U9 O O O O (by (rfl)) (by (rfl)) (by omega) O O (fun _ _=>?_))|(apply j3;refine R8 O O O O O O O O O O (fun _=>?_)))|(apply D6)|(apply G8)|(apply F3)|(apply A7)|(refine G5 O ?_;first|(apply I1)|(apply E9<;>intro hq<;>(try (exfalso;omega))))|(apply C9)|(apply H9))
    rename_i a2 c2
    refine J6 (i+1,true,Z++[13],a2,c2) ⟨⟨by dsimp only;omega,hst,by dsimp only;rw[List.length_append];(simp only[List.length_cons,List.length_nil];omega)⟩,by dsimp only;omega⟩ ?_ ?_
    ·dsimp only
     rw[hz,List.length_append]
     exact Q7
    ·dsimp only
     rw[hz,List.length_append,AL7]
     exact J3
  ·have hv:¬(b.toNat:Int)=13:=hu 13 h13
   cases cr
   ·have hz:p9 (Z++[b])=p9 Z++[(nums d).getD (i:Int).toNat 0]:=by rw[AO8];rw[hnb];rfl
    have hst:mIn cr0 d.data.toList=((mIn false (d.data.toList.drop (i+1))).1,(Z++[b])++(mIn false (d.data.toList.drop (i+1))).2):=by
     rw[hinv,hdr]
     rw[mIn,if_neg h13]
     simp
    clear hinv hdr
    repeat' (first|(apply E8;first|(apply A8;refine A9 ?_)|(apply C8;refine D7 O O ?_)|(apply E5;refine F7 O O O ?_;first|(apply K9;refine L6 ⟨by omega,by omega⟩ ?_)|refine F9 O ?_)|(apply D5;refine D9 O O ?_)|(apply V5;refine Y5 (y9 O O O (by omega) (by omega)) O ?_)|(apply K5;refine U9 O O O O (by (rfl)) (by (rfl)) (by omega) O O (fun _ _=>?_))|(apply j3;refine R8 O O O O O O O O O O (fun _=>?_)))|(apply D6)|(apply G8)|(apply F3)|(apply A7)|(refine G5 O ?_;first|(apply H7)|(apply E9<;>intro hq<;>(try (exfalso;omega))))|(apply C9)|(apply H9))
    rename_i a2 c2
    refine J6 (i+1,false,Z++[b],a2,c2) ⟨⟨by dsimp only;omega,hst,by dsimp only;rw[List.length_append];(simp only[List.length_cons,List.length_nil];omega)⟩,by dsimp only;omega⟩ ?_ ?_
    ·dsimp only
     rw[hz,List.length_append]
     exact Q7
    ·dsimp only
     rw[hz,List.length_append,AL7]
     exact J3
   ·by_cases h10:b=10
    ·have hv1:(b.toNat:Int)=10:=by rw[h10];rfl
     have hz:p9 (Z++[10])=p9 Z++[10]:=by rw[AO8];rfl
     have hst:mIn cr0 d.data.toList=((mIn false (d.data.toList.drop (i+1))).1,(Z++[10])++(mIn false (d.data.toList.drop (i+1))).2):=by
      rw[hinv,hdr]
      rw[mIn,if_pos h10]
      simp
     clear hinv hdr
     repeat' (first|(apply E8;first|(apply A8;refine A9 ?_)|(apply C8;refine D7 O O ?_)|(apply E5;refine F7 O O O ?_;first|(apply K9;refine L6 ⟨by omega,by omega⟩ ?_)|refine F9 O ?_)|(apply D5;refine D9 O O ?_)|(apply V5;refine Y5 (y9 O O O (by omega) (by omega)) O ?_)|(apply K5;refine U9 O O O O (by (rfl)) (by (rfl)) (by omega) O O (fun _ _=>?_))|(apply j3;refine R8 O O O O O O O O O O (fun _=>?_)))|(apply D6)|(apply G8)|(apply O7)|(apply F3)|(apply A7)|(refine G5 O ?_;first|(apply I1)|(apply E9<;>intro hq<;>(try (exfalso;omega))))|(apply C9)|(apply K3)|(apply K4)|refine AK6 O ?_)
     rename_i a2 c2
     refine J6 (i+1,false,Z++[10],a2,c2) ⟨⟨by dsimp only;omega,hst,by dsimp only;rw[List.length_append];(simp only[List.length_cons,List.length_nil];omega)⟩,by dsimp only;omega⟩ ?_ ?_
     ·dsimp only
      rw[hz,List.length_append]
      exact Q7
     ·dsimp only
      rw[hz,List.length_append,AL7]
      exact J3
    ·have hv1:¬(b.toNat:Int)=10:=hu 10 h10
     by_cases h0:b=0
     ·have hv2:(b.toNat:Int)=0:=by rw[h0];rfl
      have hz:p9 (Z++[13])=p9 Z++[13]:=by rw[AO8];rfl
      have hst:mIn cr0 d.data.toList=((mIn false (d.data.toList.drop (i+1))).1,(Z++[13])++(mIn false (d.data.toList.drop (i+1))).2):=by
       rw[hinv,hdr]
       rw[mIn,if_neg h10,if_pos h0]
       simp
      clear hinv hdr
      repeat' (first|(apply E8;first|(apply A8;refine A9 ?_)|(apply C8;refine D7 O O ?_)|(apply E5;refine F7 O O O ?_;first|(apply K9;refine L6 ⟨by omega,by omega⟩ ?_)|refine F9 O ?_)|(apply D5;refine D9 O O ?_)|(apply V5;refine Y5 (y9 O O O (by omega) (by omega)) O ?_)|(apply K5;refine U9 O O O O (by (rfl)) (by (rfl)) (by omega) O O (fun _ _=>?_))|(apply j3;refine R8 O O O O O O O O O O (fun _=>?_)))|(apply D6)|(apply G8)|(apply O7)|(apply F3)|(apply A7)|(refine G5 O ?_;first|(apply I1)|(apply E9<;>intro hq<;>(try (exfalso;omega))))|(apply C9)|(apply K3)|(apply K4)|refine AK6 O ?_)
      rename_i a2 c2
      refine J6 (i+1,false,Z++[13],a2,c2) ⟨⟨by dsimp only;omega,hst,by dsimp only;rw[List.length_append];(simp only[List.length_cons,List.length_nil];omega)⟩,by dsimp only;omega⟩ ?_ ?_
      ·dsimp only
       rw[hz,List.length_append]
       exact Q7
      ·dsimp only
       rw[hz,List.length_append,AL7]
       exact J3
     ·have hv2:¬(b.toNat:Int)=0:=hu 0 h0
      have hz:p9 (Z++[13,b])=p9 Z++[13,(nums d).getD (i:Int).toNat 0]:=by rw[AO8];rw[hnb];rfl
      have hst:mIn cr0 d.data.toList=((mIn false (d.data.toList.drop (i+1))).1,(Z++[13,b])++(mIn false (d.data.toList.drop (i+1))).2):=by
       rw[hinv,hdr]
       rw[mIn,if_neg h10,if_neg h0,if_neg h13]
       simp
      clear hinv hdr
      repeat' (first|(apply E8;first|(apply A8;refine A9 ?_)|(apply C8;refine D7 O O ?_)|(apply E5;refine F7 O O O ?_;first|(apply K9;refine L6 ⟨by omega,by omega⟩ ?_)|refine F9 O ?_)|(apply D5;refine D9 O O ?_)|(apply V5;refine Y5 (y9 O O O (by omega) (by omega)) O ?_)|(apply K5;refine U9 O O O O (by (rfl)) (by (rfl)) (by omega) O O (fun _ _=>?_))|(apply j3;refine R8 O O O O O O O O O O (fun _=>?_)))|(apply D6)|(apply G8)|(apply F3)|(apply A7)|(refine G5 O ?_;first|(apply I1)|(apply E9<;>intro hq<;>(try (exfalso;omega))))|(apply C9)|(apply H9))
      rename_i a2 c2
      refine J6 (i+1,false,Z++[13,b],a2,c2) ⟨⟨by dsimp only;omega,hst,by dsimp only;rw[List.length_append];(simp only[List.length_cons,List.length_nil];omega)⟩,by dsimp only;omega⟩ ?_ ?_
      ·dsimp only
       rw[hz,List.length_append]
       exact Q7
      ·dsimp only
       rw[hz,List.length_append,AL7,show octs (p9 Z)++octs [13,(nums d).getD (i:Int).toNat 0]=(octs (p9 Z)++[.int .u8 13])++[.int .u8 ((nums d).getD (i:Int).toNat 0)] from by simp [octs]]
       exact J3
 ·obtain rfl:i=d.size:=by omega
  rw[List.drop_of_length_le (by omega)] at hinv
  have hf:mIn cr0 d.data.toList=(cr,Z):=by
   rw[hinv]
   cases cr<;>simp [mIn]
  rw[hf]
  clear hinv hf
  repeat' (first|(apply E8;first|(apply A8;refine A9 ?_)|(apply E5;refine F7 O O O ?_;refine F9 O ?_))|(apply u7;first|(apply Y3;refine Y2 ?_)|(apply Y8;refine j5 O O ?_)|(apply Y1;refine Z7 O O ?_)|(apply As0;refine A92 (AP8 (xs:=p9 Z) O O O O) O ?_))|(apply D6)|(apply I4)|(apply O7)|(apply A7)|(refine G5 O ?_;apply E9<;>intro hq<;>(try (exfalso;omega)))|(apply C9)|(apply K3)|(apply K4)|refine V6 (by kernel_rfl) ?_)
  all_goals (refine N7 (by (exact .inr O)) O O0 ?_;rfl)
theorem Ap3 (G:Ctx) (H:List Ent) (m:Int) (hm:∀w,Holds G H w→w.cell? ⟨2,0,none⟩=some (.int .i64 m)) (d:ByteArray) (hd:d.size≤4000000) (c:UInt8) (new:List UInt8) (hn:new.length≤2) (hne:[c]≠new):SV Tryz.prog G 40 [.string d,.string ⟨#[c]⟩,.string ⟨new.toArray⟩] H (.string ⟨(d.data.toList.flatMap (fun b=>if b=c then new else [b])).toArray⟩):=by
 refine u6 (l8 Tryz.func40 O O) fun w hw=>?_
 have hc:Lib.countB d ⟨#[c]⟩≤d.size:=Lib.countB_le ⟨#[c]⟩ (show 1≤1 from Nat.le_refl _) d.size d (Nat.le_refl _)
 have hns:(⟨new.toArray⟩:ByteArray).size=new.length:=rfl
 have hmul:Lib.countB d ⟨#[c]⟩ * (⟨new.toArray⟩:ByteArray).size≤d.size * 2:=by rw[hns];exact Nat.mul_le_mul hc hn
 have h:=Tryz.strings_ReplaceAll d ⟨#[c]⟩ ⟨new.toArray⟩ m w (by omega) (hm w hw) (show 1≤1 from Nat.le_refl _) (by omega)
 rw[show (⟨#[c]⟩:ByteArray).data.toList=[c] from rfl,show (⟨new.toArray⟩:ByteArray).data.toList=new from List.toList_toArray,Aq9 c new _ hne] at h
 exact h
end
abbrev tokV (k c o:Int) (d:ByteArray):Value:= .agg #[.int .i64 k,.int .i64 c,.int .i64 o,.string d]
section
attribute [local irreducible] SW SL SQ AtQ SV SC BB LD PK Yields SO SOT SOA SY SP SPT SPA
theorem BN6 (G:Ctx) (H:List Ent) (m:Int) (hm:∀w,Holds G H w→w.cell? ⟨2,0,none⟩=some (.int .i64 m)) (d:ByteArray) (hd:d.size≤4000000):SV Tryz.prog G 40 [.string d,.string ⟨#[255]⟩,.string ⟨#[255,255]⟩] H (.string (escS d)):=
 Ap3 G H m hm d hd 255 [255,255] (Nat.le_refl _) (by decide)
theorem Bb7 (G:Ctx) (H:List Ent) (m:Int) (hm:∀w,Holds G H w→w.cell? ⟨2,0,none⟩=some (.int .i64 m)) (d:ByteArray) (hd:d.size≤4000000):SV Tryz.prog G 16 [.string d] H (.string (escS d)):=by
 have cR:=BN6 G H m hm d hd
 refine P8 Tryz.func16 O O O O O ?_
 repeat' (first|(apply E8;first|(apply A8;refine A9 ?_)|(apply C8;refine D7 O O ?_)|(apply D5;refine D9 O O ?_)|(apply H5;refine H6 O O O (cR) O O ?_))|(apply D6)|(apply I4)|(apply A7)|(apply C9))
 refine N7 (by (exact .inr O)) O O0 ?_
 rfl
end
end Go.Proofs.YtmmnimagbnlcmaaGreatDoor
