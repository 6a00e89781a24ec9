/- Texts of this claim, merged: ParT ParU NumD UtfV ParV ParW ParX ParY Pen2 Drw8. -/
import Derived.Test.YtmmnimagbnlcmaaGreatDoorTd15
import Derived.WalkKit
import Derived.WalkSpells
import Derived.WalkLawsBesides
import Derived.Handy
import Derived.Lib.Hide
import Derived.Laws.BitsAllLaws
import Derived.Deep.MidRow
import Derived.Deep.WholeRow
import Derived.BigQuiet
import Derived.Laws.CopyOwn
import Derived.Deep.QuietTactic
import Derived.Laws.AppendOwnNone
import Derived.Laws.MakeOwn
import Derived.Laws.IdiomStrings
import Derived.OrdersHeld
import Derived.Lib.SliceRun
import Derived.ChangeKeysEq
import Derived.Laws.CopyRow
import Derived.Lib.AppendStr
import Derived.ArgAppend
import Derived.Test.YtmmnimagbnlcmaaGreatDoorRows
import Derived.Lib.Replace
import Derived.Lib.Join
import Derived.Lib.IndexLaws
import Derived.Lib.IndexMore
import Derived.Lib.SplitLaws
import Derived.Shelf.Strings.Builder1
import Derived.Shelf.Strings.Builder2
import Derived.Shelf.Strings.OnBuilder
import Derived.Shelf.Strings.Trim
import Derived.Shelf.Small.Utf8
import Derived.Shelf.Small.Strs
import Derived.Shelf.Strings.BuilderF
import Derived.Shelf.Strconv.Itoa0
import Derived.Shelf.Strconv.Itoa1
import Derived.Shelf.LaysM
import Derived.Shelf.Strconv.Itoa2
import Derived.Shelf.Strconv.Itoa3
import Derived.Shelf.Strings.Search1
import Derived.Shelf.Strings.Search2
import Derived.Shelf.Strings.Search3
import Derived.Shelf.Strings.Count
import Derived.Shelf.Strings.Shaped
import Derived.Shelf.Strings.LastIndex
import Derived.Shelf.Strings.Prefix
import Derived.Shelf.Strings.Split
import Derived.Shelf.Strings.Replace
import Derived.Shelf.Strings.SplitShaped
import Derived.Shelf.Strings.Runes
import Derived.Shelf.Strings.AsciiSet
import Derived.Shelf.Bits.Mul64
import Derived.Shelf.Strings.Repeat
import Derived.Shelf.Unicode.DecodeSlow
import Derived.Shelf.Unicode.DecodeAny
import Derived.Shelf.Unicode.ValidAny
import Derived.Test.YtmmnimagbnlcmaaGreatDoorProg
import Derived.Lib.Bytealg
import Derived.Lib.ItoaNum
import Derived.Lib.AppendIntMem
import Derived.Lib.Repeat
import Derived.Lib.DecodeN
import Derived.Lib.ValidU
import Derived.Lib.MapLaws
import Derived.Laws.RangeAny
import Derived.StillTailTactics
import Derived.RegionTactic
import Derived.ChangeAlike
import Derived.Maps.RangeRun
namespace Go.Proofs.YtmmnimagbnlcmaaGreatDoor
open Go Go.RowKit Go.Fw Go.Sx
set_option maxRecDepth 100000
section
set_option maxHeartbeats 4000000
/-- A number that a text may have. -/
def cpR (x:Int):Prop:=isR x∧((32≤x∧x≤126)∨160≤x)
/-- A text that an AOsc may have. -/
def okT (t:ByteArray):Prop:=t.size≤256∧∃R:List Int,(∀x∈R,cpR x)∧t=strOfNums (encL R)
def inOk (i:ByteArray):Prop:=(∀x∈nums i,inB x=true)∧i.size≤2
def goodE (y:Pa):Prop:=
  (∃c,y=(1,c,0,e0,[],e0)∧((32≤c∧c≤126)∨(160≤c∧c≤1114111)))∨
  (∃c,y=(2,c,0,e0,[],e0)∧0≤c∧c≤31∧c≠24∧c≠26∧c≠27)∨
  (∃c i,y=(3,c,0,i,[],e0)∧48≤c∧c≤126∧(0<i.size∨¬(c=91∨c=93∨c=80∨c=88∨c=94∨c=95))∧inOk i)∨
  (∃c m i L,y=(4,c,m,i,L,e0)∧64≤c∧c≤126∧(m=0∨(60≤m∧m≤63))∧inOk i)∨
  (∃t,y=(5,0,0,e0,[],t)∧okT t)∨y=dP
theorem P6:okT e0:=⟨Nat.zero_le _,[],fun _ h=>(nomatch h),rfl⟩
theorem At7 (R:List Int) (x:Int):encL (R++[x])=encL R++runeL (fixR x):=by unfold encL;rw[List.flatMap_append];simp
theorem Bt5 {x:Int} (h:(32≤x∧x≤126)∨(160≤x∧x≤1114111)):cpR (fixR x)∧fixR (fixR x)=fixR x:=by
  unfold cpR isR fixR
  split
  · exact⟨by omega,by rw[if_neg (by omega)]⟩
  · rename_i hn
    exact⟨by omega,rfl⟩
theorem AE6 {t:ByteArray} {x:Int} (h:okT t) (hx:(32≤x∧x≤126)∨(160≤x∧x≤1114111)) (hz:t.size+(rtB x).size≤256):okT (t++rtB x):=by
  obtain⟨h1,R,hR,rfl⟩:=h
  obtain⟨hc,hf⟩:=Bt5 hx
  refine⟨by rw[AM0];exact hz,R++[fixR x],fun y hy=>?_,?_⟩
  · rcases List.mem_append.1 hy with hy|hy
    · exact hR y hy
    · rw[List.mem_singleton] at hy;rw[hy];exact hc
  · rw[At7,hf]
    unfold rtB
    rw[Y2]
theorem AC7 {p:Ps} {x:Int} (hp:okP p) (hx:48≤x∧x≤126) (hs:p.1=1∧¬(x=91∨x=93∨x=80∨x=88∨x=94∨x=95)∨p.1=2∨(3≤p.1∧64≤x)):goodE (finP p x):=by
  obtain⟨s,m,i,g,t⟩:=p
  obtain⟨h1,h2,h3,h4,h5,h6,h7,h8,h9⟩:=(AH1 s m i g t).1 hp
  dsimp only at hs
  unfold finP
  dsimp only
  by_cases hi:i.size=3
  · rw[if_pos hi];exact .inr (.inr (.inr (.inr (.inr rfl))))
  rw[if_neg hi]
  by_cases h:s<3
  · rw[if_pos h]
    refine .inr (.inr (.inl ⟨x,i,rfl,hx.1,hx.2,?_,h3.1,by omega⟩))
    rcases hs with hs|hs|hs
    · exact .inr hs.2
    · exact .inl (h4.2 (.inl hs))
    · omega
  · rw[if_neg h]
    exact .inr (.inr (.inr (.inl ⟨x,m,i,_,rfl,by omega,hx.2,h2.imp id (·.1),h3.1,by omega⟩)))
/-- What a step tells, and the text that it leaves. -/
def GS (Z:Ps×List Pa):Prop:=(∀y∈Z.2,goodE y)∧okT Z.1.2.2.2.2
theorem V9 {p:Ps} (h:okT p.2.2.2.2):GS (p,[]):=⟨fun _ h=>(nomatch h),h⟩
theorem Q4 {p:Ps} {y:Pa} (h:okT p.2.2.2.2) (hy:goodE y):GS (p,[y]):=⟨fun z hz=>by rw[List.mem_singleton] at hz;rw[hz];exact hy,h⟩
theorem V7:goodE dP:= .inr (.inr (.inr (.inr (.inr rfl))))
theorem CK9 (m:Int) (i g t:ByteArray) (x:Int) (R:Ps×List Pa) (hx:0≤x∧x≤1114111) (hp:okP (0,m,i,g,t)) (hT:okT t) (hR:GS R):GS (stepW (0,m,i,g,t) x (whatQ 0 x) R):=by
  have hc:=R3 x hx
  rcases hc with h|h|h|h|h|h|h|h|h|h|h|h|h|h|h
  all_goals
    obtain⟨h,hN⟩:=h
    rw[show whatQ 0 x=_ from by unfold whatQ whatP;rw[hN]]
    unfold stepW
    dsimp only
    (repeat (fail))
    first
      | exact V9 P6
      | exact V9 hT
      | exact Q4 P6 V7
      | exact Q4 hT (.inr (.inl ⟨x,rfl,by omega,by omega,by omega,by omega,by omega⟩))
      | exact Q4 hT (.inl ⟨x,rfl,by omega⟩)
      | exact Q4 P6 (AC7 hp (by omega) (by dsimp only;omega))
      | exact Q4 P6 (.inr (.inr (.inr (.inr (.inl ⟨t,rfl,hT⟩)))))
      | exact⟨fun y hy=>by rcases List.mem_cons.1 hy with hy|hy;(rw[hy];exact V7);exact hR.1 y hy,hR.2⟩
      | (show GS ((7,m,i,g,if t.size+(rtB x).size≤256 then t++rtB x else t),([]:List Pa));refine⟨fun _ h=>(nomatch h),?_⟩;dsimp only;split;(refine AE6 hT ?_ ?_;omega;assumption);exact hT)
      | (split;(exact V9 P6);exact Q4 P6 V7)
theorem CL5 (m:Int) (i g t:ByteArray) (x:Int) (R:Ps×List Pa) (hx:0≤x∧x≤1114111) (hp:okP (1,m,i,g,t)) (hT:okT t) (hR:GS R):GS (stepW (1,m,i,g,t) x (whatQ 1 x) R):=by
  have hc:=R3 x hx
  rcases hc with h|h|h|h|h|h|h|h|h|h|h|h|h|h|h
  all_goals
    obtain⟨h,hN⟩:=h
    rw[show whatQ 1 x=_ from by unfold whatQ whatP;rw[hN]]
    unfold stepW
    dsimp only
    (repeat (fail))
    first
      | exact V9 P6
      | exact V9 hT
      | exact Q4 P6 V7
      | exact Q4 hT (.inr (.inl ⟨x,rfl,by omega,by omega,by omega,by omega,by omega⟩))
      | exact Q4 hT (.inl ⟨x,rfl,by omega⟩)
      | exact Q4 P6 (AC7 hp (by omega) (by dsimp only;omega))
      | exact Q4 P6 (.inr (.inr (.inr (.inr (.inl ⟨t,rfl,hT⟩)))))
      | exact⟨fun y hy=>by rcases List.mem_cons.1 hy with hy|hy;(rw[hy];exact V7);exact hR.1 y hy,hR.2⟩
      | (show GS ((7,m,i,g,if t.size+(rtB x).size≤256 then t++rtB x else t),([]:List Pa));refine⟨fun _ h=>(nomatch h),?_⟩;dsimp only;split;(refine AE6 hT ?_ ?_;omega;assumption);exact hT)
      | (split;(exact V9 P6);exact Q4 P6 V7)
theorem CM5 (m:Int) (i g t:ByteArray) (x:Int) (R:Ps×List Pa) (hx:0≤x∧x≤1114111) (hp:okP (2,m,i,g,t)) (hT:okT t) (hR:GS R):GS (stepW (2,m,i,g,t) x (whatQ 2 x) R):=by
  have hc:=R3 x hx
  rcases hc with h|h|h|h|h|h|h|h|h|h|h|h|h|h|h
  all_goals
    obtain⟨h,hN⟩:=h
    rw[show whatQ 2 x=_ from by unfold whatQ whatP;rw[hN]]
    unfold stepW
    dsimp only
    (repeat (fail))
    first
      | exact V9 P6
      | exact V9 hT
      | exact Q4 P6 V7
      | exact Q4 hT (.inr (.inl ⟨x,rfl,by omega,by omega,by omega,by omega,by omega⟩))
      | exact Q4 hT (.inl ⟨x,rfl,by omega⟩)
      | exact Q4 P6 (AC7 hp (by omega) (by dsimp only;omega))
      | exact Q4 P6 (.inr (.inr (.inr (.inr (.inl ⟨t,rfl,hT⟩)))))
      | exact⟨fun y hy=>by rcases List.mem_cons.1 hy with hy|hy;(rw[hy];exact V7);exact hR.1 y hy,hR.2⟩
      | (show GS ((7,m,i,g,if t.size+(rtB x).size≤256 then t++rtB x else t),([]:List Pa));refine⟨fun _ h=>(nomatch h),?_⟩;dsimp only;split;(refine AE6 hT ?_ ?_;omega;assumption);exact hT)
      | (split;(exact V9 P6);exact Q4 P6 V7)
theorem CL8 (m:Int) (i g t:ByteArray) (x:Int) (R:Ps×List Pa) (hx:0≤x∧x≤1114111) (hp:okP (3,m,i,g,t)) (hT:okT t) (hR:GS R):GS (stepW (3,m,i,g,t) x (whatQ 3 x) R):=by
  have hc:=R3 x hx
  rcases hc with h|h|h|h|h|h|h|h|h|h|h|h|h|h|h
  all_goals
    obtain⟨h,hN⟩:=h
    rw[show whatQ 3 x=_ from by unfold whatQ whatP;rw[hN]]
    unfold stepW
    dsimp only
    (repeat (fail))
    first
      | exact V9 P6
      | exact V9 hT
      | exact Q4 P6 V7
      | exact Q4 hT (.inr (.inl ⟨x,rfl,by omega,by omega,by omega,by omega,by omega⟩))
      | exact Q4 hT (.inl ⟨x,rfl,by omega⟩)
      | exact Q4 P6 (AC7 hp (by omega) (by dsimp only;omega))
      | exact Q4 P6 (.inr (.inr (.inr (.inr (.inl ⟨t,rfl,hT⟩)))))
      | exact⟨fun y hy=>by rcases List.mem_cons.1 hy with hy|hy;(rw[hy];exact V7);exact hR.1 y hy,hR.2⟩
      | (show GS ((7,m,i,g,if t.size+(rtB x).size≤256 then t++rtB x else t),([]:List Pa));refine⟨fun _ h=>(nomatch h),?_⟩;dsimp only;split;(refine AE6 hT ?_ ?_;omega;assumption);exact hT)
      | (split;(exact V9 P6);exact Q4 P6 V7)
theorem CK6 (m:Int) (i g t:ByteArray) (x:Int) (R:Ps×List Pa) (hx:0≤x∧x≤1114111) (hp:okP (4,m,i,g,t)) (hT:okT t) (hR:GS R):GS (stepW (4,m,i,g,t) x (whatQ 4 x) R):=by
  have hc:=R3 x hx
  rcases hc with h|h|h|h|h|h|h|h|h|h|h|h|h|h|h
  all_goals
    obtain⟨h,hN⟩:=h
    rw[show whatQ 4 x=_ from by unfold whatQ whatP;rw[hN]]
    unfold stepW
    dsimp only
    (repeat (fail))
    first
      | exact V9 P6
      | exact V9 hT
      | exact Q4 P6 V7
      | exact Q4 hT (.inr (.inl ⟨x,rfl,by omega,by omega,by omega,by omega,by omega⟩))
      | exact Q4 hT (.inl ⟨x,rfl,by omega⟩)
      | exact Q4 P6 (AC7 hp (by omega) (by dsimp only;omega))
      | exact Q4 P6 (.inr (.inr (.inr (.inr (.inl ⟨t,rfl,hT⟩)))))
      | exact⟨fun y hy=>by rcases List.mem_cons.1 hy with hy|hy;(rw[hy];exact V7);exact hR.1 y hy,hR.2⟩
      | (show GS ((7,m,i,g,if t.size+(rtB x).size≤256 then t++rtB x else t),([]:List Pa));refine⟨fun _ h=>(nomatch h),?_⟩;dsimp only;split;(refine AE6 hT ?_ ?_;omega;assumption);exact hT)
      | (split;(exact V9 P6);exact Q4 P6 V7)
theorem CK2 (m:Int) (i g t:ByteArray) (x:Int) (R:Ps×List Pa) (hx:0≤x∧x≤1114111) (hp:okP (5,m,i,g,t)) (hT:okT t) (hR:GS R):GS (stepW (5,m,i,g,t) x (whatQ 5 x) R):=by
  have hc:=R3 x hx
  rcases hc with h|h|h|h|h|h|h|h|h|h|h|h|h|h|h
  all_goals
    obtain⟨h,hN⟩:=h
    rw[show whatQ 5 x=_ from by unfold whatQ whatP;rw[hN]]
    unfold stepW
    dsimp only
    (repeat (fail))
    first
      | exact V9 P6
      | exact V9 hT
      | exact Q4 P6 V7
      | exact Q4 hT (.inr (.inl ⟨x,rfl,by omega,by omega,by omega,by omega,by omega⟩))
      | exact Q4 hT (.inl ⟨x,rfl,by omega⟩)
      | exact Q4 P6 (AC7 hp (by omega) (by dsimp only;omega))
      | exact Q4 P6 (.inr (.inr (.inr (.inr (.inl ⟨t,rfl,hT⟩)))))
      | exact⟨fun y hy=>by rcases List.mem_cons.1 hy with hy|hy;(rw[hy];exact V7);exact hR.1 y hy,hR.2⟩
      | (show GS ((7,m,i,g,if t.size+(rtB x).size≤256 then t++rtB x else t),([]:List Pa));refine⟨fun _ h=>(nomatch h),?_⟩;dsimp only;split;(refine AE6 hT ?_ ?_;omega;assumption);exact hT)
      | (split;(exact V9 P6);exact Q4 P6 V7)
theorem CM2 (m:Int) (i g t:ByteArray) (x:Int) (R:Ps×List Pa) (hx:0≤x∧x≤1114111) (hp:okP (6,m,i,g,t)) (hT:okT t) (hR:GS R):GS (stepW (6,m,i,g,t) x (whatQ 6 x) R):=by
  have hc:=R3 x hx
  rcases hc with h|h|h|h|h|h|h|h|h|h|h|h|h|h|h
  all_goals
    obtain⟨h,hN⟩:=h
    rw[show whatQ 6 x=_ from by unfold whatQ whatP;rw[hN]]
    unfold stepW
    dsimp only
    (repeat (fail))
    first
      | exact V9 P6
      | exact V9 hT
      | exact Q4 P6 V7
      | exact Q4 hT (.inr (.inl ⟨x,rfl,by omega,by omega,by omega,by omega,by omega⟩))
      | exact Q4 hT (.inl ⟨x,rfl,by omega⟩)
      | exact Q4 P6 (AC7 hp (by omega) (by dsimp only;omega))
      | exact Q4 P6 (.inr (.inr (.inr (.inr (.inl ⟨t,rfl,hT⟩)))))
      | exact⟨fun y hy=>by rcases List.mem_cons.1 hy with hy|hy;(rw[hy];exact V7);exact hR.1 y hy,hR.2⟩
      | (show GS ((7,m,i,g,if t.size+(rtB x).size≤256 then t++rtB x else t),([]:List Pa));refine⟨fun _ h=>(nomatch h),?_⟩;dsimp only;split;(refine AE6 hT ?_ ?_;omega;assumption);exact hT)
      | (split;(exact V9 P6);exact Q4 P6 V7)
theorem CK1 (m:Int) (i g t:ByteArray) (x:Int) (R:Ps×List Pa) (hx:0≤x∧x≤1114111) (hp:okP (7,m,i,g,t)) (hT:okT t) (hR:GS R):GS (stepW (7,m,i,g,t) x (whatQ 7 x) R):=by
  have hc:=R3 x hx
  rcases hc with h|h|h|h|h|h|h|h|h|h|h|h|h|h|h
  all_goals
    obtain⟨h,hN⟩:=h
    rw[show whatQ 7 x=_ from by unfold whatQ whatP;rw[hN]]
    unfold stepW
    dsimp only
    (repeat (fail))
    first
      | exact V9 P6
      | exact V9 hT
      | exact Q4 P6 V7
      | exact Q4 hT (.inr (.inl ⟨x,rfl,by omega,by omega,by omega,by omega,by omega⟩))
      | exact Q4 hT (.inl ⟨x,rfl,by omega⟩)
      | exact Q4 P6 (AC7 hp (by omega) (by dsimp only;omega))
      | exact Q4 P6 (.inr (.inr (.inr (.inr (.inl ⟨t,rfl,hT⟩)))))
      | exact⟨fun y hy=>by rcases List.mem_cons.1 hy with hy|hy;(rw[hy];exact V7);exact hR.1 y hy,hR.2⟩
      | (show GS ((7,m,i,g,if t.size+(rtB x).size≤256 then t++rtB x else t),([]:List Pa));refine⟨fun _ h=>(nomatch h),?_⟩;dsimp only;split;(refine AE6 hT ?_ ?_;omega;assumption);exact hT)
      | (split;(exact V9 P6);exact Q4 P6 V7)
theorem CK3 (m:Int) (i g t:ByteArray) (x:Int) (R:Ps×List Pa) (hx:0≤x∧x≤1114111) (hp:okP (8,m,i,g,t)) (hT:okT t) (hR:GS R):GS (stepW (8,m,i,g,t) x (whatQ 8 x) R):=by
  have hc:=R3 x hx
  rcases hc with h|h|h|h|h|h|h|h|h|h|h|h|h|h|h
  all_goals
    obtain⟨h,hN⟩:=h
    rw[show whatQ 8 x=_ from by unfold whatQ whatP;rw[hN]]
    unfold stepW
    dsimp only
    (repeat (fail))
    first
      | exact V9 P6
      | exact V9 hT
      | exact Q4 P6 V7
      | exact Q4 hT (.inr (.inl ⟨x,rfl,by omega,by omega,by omega,by omega,by omega⟩))
      | exact Q4 hT (.inl ⟨x,rfl,by omega⟩)
      | exact Q4 P6 (AC7 hp (by omega) (by dsimp only;omega))
      | exact Q4 P6 (.inr (.inr (.inr (.inr (.inl ⟨t,rfl,hT⟩)))))
      | exact⟨fun y hy=>by rcases List.mem_cons.1 hy with hy|hy;(rw[hy];exact V7);exact hR.1 y hy,hR.2⟩
      | (show GS ((7,m,i,g,if t.size+(rtB x).size≤256 then t++rtB x else t),([]:List Pa));refine⟨fun _ h=>(nomatch h),?_⟩;dsimp only;split;(refine AE6 hT ?_ ?_;omega;assumption);exact hT)
      | (split;(exact V9 P6);exact Q4 P6 V7)
theorem CK7 (m:Int) (i g t:ByteArray) (x:Int) (R:Ps×List Pa) (hx:0≤x∧x≤1114111) (hp:okP (9,m,i,g,t)) (hT:okT t) (hR:GS R):GS (stepW (9,m,i,g,t) x (whatQ 9 x) R):=by
  have hc:=R3 x hx
  rcases hc with h|h|h|h|h|h|h|h|h|h|h|h|h|h|h
  all_goals
    obtain⟨h,hN⟩:=h
    rw[show whatQ 9 x=_ from by unfold whatQ whatP;rw[hN]]
    unfold stepW
    dsimp only
    (repeat (fail))
    first
      | exact V9 P6
      | exact V9 hT
      | exact Q4 P6 V7
      | exact Q4 hT (.inr (.inl ⟨x,rfl,by omega,by omega,by omega,by omega,by omega⟩))
      | exact Q4 hT (.inl ⟨x,rfl,by omega⟩)
      | exact Q4 P6 (AC7 hp (by omega) (by dsimp only;omega))
      | exact Q4 P6 (.inr (.inr (.inr (.inr (.inl ⟨t,rfl,hT⟩)))))
      | exact⟨fun y hy=>by rcases List.mem_cons.1 hy with hy|hy;(rw[hy];exact V7);exact hR.1 y hy,hR.2⟩
      | (show GS ((7,m,i,g,if t.size+(rtB x).size≤256 then t++rtB x else t),([]:List Pa));refine⟨fun _ h=>(nomatch h),?_⟩;dsimp only;split;(refine AE6 hT ?_ ?_;omega;assumption);exact hT)
      | (split;(exact V9 P6);exact Q4 P6 V7)
theorem CF3 (m:Int) (i g t:ByteArray) (x:Int) (R:Ps×List Pa) (hx:0≤x∧x≤1114111) (hp:okP (10,m,i,g,t)) (hT:okT t) (hR:GS R):GS (stepW (10,m,i,g,t) x (whatQ 10 x) R):=by
  have hc:=R3 x hx
  rcases hc with h|h|h|h|h|h|h|h|h|h|h|h|h|h|h
  all_goals
    obtain⟨h,hN⟩:=h
    rw[show whatQ 10 x=_ from by unfold whatQ whatP;rw[hN]]
    unfold stepW
    dsimp only
    (repeat (fail))
    first
      | exact V9 P6
      | exact V9 hT
      | exact Q4 P6 V7
      | exact Q4 hT (.inr (.inl ⟨x,rfl,by omega,by omega,by omega,by omega,by omega⟩))
      | exact Q4 hT (.inl ⟨x,rfl,by omega⟩)
      | exact Q4 P6 (AC7 hp (by omega) (by dsimp only;omega))
      | exact Q4 P6 (.inr (.inr (.inr (.inr (.inl ⟨t,rfl,hT⟩)))))
      | exact⟨fun y hy=>by rcases List.mem_cons.1 hy with hy|hy;(rw[hy];exact V7);exact hR.1 y hy,hR.2⟩
      | (show GS ((7,m,i,g,if t.size+(rtB x).size≤256 then t++rtB x else t),([]:List Pa));refine⟨fun _ h=>(nomatch h),?_⟩;dsimp only;split;(refine AE6 hT ?_ ?_;omega;assumption);exact hT)
      | (split;(exact V9 P6);exact Q4 P6 V7)
theorem BG6 (s m:Int) (i g t:ByteArray) (x:Int) (R:Ps×List Pa) (hx:0≤x∧x≤1114111) (hp:okP (s,m,i,g,t)) (hT:okT t) (hR:GS R):GS (stepW (s,m,i,g,t) x (whatQ s x) R):=by
  have hs:=((AH1 s m i g t).1 hp).1
  obtain⟨k,rfl⟩:∃k:Nat,s=k:=⟨s.toNat,by omega⟩
  match k,(show k≤10 by omega) with
  | 0,_=>exact CK9 m i g t x R hx hp hT hR
  | 1,_=>exact CL5 m i g t x R hx hp hT hR
  | 2,_=>exact CM5 m i g t x R hx hp hT hR
  | 3,_=>exact CL8 m i g t x R hx hp hT hR
  | 4,_=>exact CK6 m i g t x R hx hp hT hR
  | 5,_=>exact CK2 m i g t x R hx hp hT hR
  | 6,_=>exact CM2 m i g t x R hx hp hT hR
  | 7,_=>exact CK1 m i g t x R hx hp hT hR
  | 8,_=>exact CK3 m i g t x R hx hp hT hR
  | 9,_=>exact CK7 m i g t x R hx hp hT hR
  | 10,_=>exact CF3 m i g t x R hx hp hT hR
theorem CH6:okP (sP 1):=AN2 1 (by omega) (by omega) (by omega)
theorem Bn2 (x:Int) (hx:0≤x∧x≤1114111):GS (step1 x):=BG6 1 0 e0 e0 e0 x _ hx CH6 P6 (V9 P6)
theorem Bo8 (p:Ps) (x:Int) (hp:okP p) (hT:okT p.2.2.2.2):GS (stepP p x):=by
  unfold stepP
  split
  · exact V9 hT
  · obtain⟨s,m,i,g,t⟩:=p
    exact BG6 s m i g t x _ (by omega) hp hT (Bn2 x (by omega))
theorem By6 (p:Ps) (L:List Int) (hp:okP p) (hT:okT p.2.2.2.2):okP (runP p L).1∧GS (runP p L):=by
  unfold runP
  have key:∀(L:List Int) (Z:Ps×List Pa),okP Z.1→GS Z→okP (L.foldl (fun z x=>((stepP z.1 x).1,z.2++(stepP z.1 x).2)) Z).1∧GS (L.foldl (fun z x=>((stepP z.1 x).1,z.2++(stepP z.1 x).2)) Z):=by
    intro L
    induction L with
    | nil=>exact fun Z h1 h2=>⟨h1,h2⟩
    | cons x L ih=>
      intro Z h1 h2
      rw[List.foldl_cons]
      have h3:=Bo8 Z.1 x h1 h2.2
      refine ih _ (A02 _ x h1) ⟨fun y hy=>?_,h3.2⟩
      rcases List.mem_append.1 hy with hy|hy
      · exact h2.1 y hy
      · exact h3.1 y hy
  exact key L (p,[]) hp (V9 hT)
end
section
set_option maxHeartbeats 2000000
theorem fold_acc:∀(L:List Int) (q:Ps) (acc:List Pa),L.foldl (fun z x=>((stepP z.1 x).1,z.2++(stepP z.1 x).2)) (q,acc)=((runP q L).1,acc++(runP q L).2)
  | [],q,acc=>by unfold runP;simp
  | x::L,q,acc=>by
    have h1:=fold_acc L (stepP q x).1 (acc++(stepP q x).2)
    have h2:=fold_acc L (stepP q x).1 ([]++(stepP q x).2)
    rw[List.foldl_cons]
    unfold runP
    rw[List.foldl_cons]
    refine h1.trans ?_
    rw[show L.foldl (fun z x=>((stepP z.1 x).1,z.2++(stepP z.1 x).2)) ((stepP (q,([]:List Pa)).1 x).1,(q,([]:List Pa)).2++(stepP (q,([]:List Pa)).1 x).2)=_ from h2]
    simp
theorem Ac9 (p:Ps) (x:Int) (L:List Int):runP p (x::L)=((runP (stepP p x).1 L).1,(stepP p x).2++(runP (stepP p x).1 L).2):=by
  conv=>lhs;unfold runP
  rw[List.foldl_cons,fold_acc]
  rfl
theorem AY6 (p:Ps) (A B:List Int):runP p (A++B)=((runP (runP p A).1 B).1,(runP p A).2++(runP (runP p A).1 B).2):=by
  conv=>lhs;unfold runP
  rw[List.foldl_append]
  exact fold_acc B (runP p A).1 (runP p A).2
/-- Nothing is told. -/
def Qt (p:Ps) (L:List Int) (q:Ps):Prop:=runP p L=(q,[])
theorem Qt.nil (p:Ps):Qt p [] p:=rfl
theorem Qt.cons {p r q:Ps} {x:Int} {L:List Int} (h:stepP p x=(r,[])) (h2:Qt r L q):Qt p (x::L) q:=by
  unfold Qt at h2 ⊢
  rw[Ac9,h]
  dsimp only
  rw[h2]
  rfl
/-- One act is told, and the parser is as at first. -/
def Tells (p:Ps) (L:List Int) (y:Pa):Prop:=runP p L=(sP 0,[y])
theorem Tells.one {p:Ps} {x:Int} {y:Pa} (h:stepP p x=(sP 0,[y])):Tells p [x] y:=by
  unfold Tells
  rw[Ac9,h]
  rfl
theorem Tells.cons {p r:Ps} {x:Int} {L:List Int} {y:Pa} (h:stepP p x=(r,[])) (h2:Tells r L y):Tells p (x::L) y:=by
  unfold Tells at h2 ⊢
  rw[Ac9,h]
  dsimp only
  rw[h2]
  rfl
theorem Tells.app {p r:Ps} {A B:List Int} {y:Pa} (h:Qt p A r) (h2:Tells r B y):Tells p (A++B) y:=by
  unfold Tells at h2 ⊢
  unfold Qt at h
  rw[AY6,h]
  dsimp only
  rw[h2]
  rfl
theorem Bx4 (x:Int) (hx:(32≤x∧x≤126)∨(160≤x∧x≤1114111)):stepP (sP 0) x=(sP 0,[(1,x,0,e0,[],e0)]):=by
  have hc:=R3 x (by omega)
  rcases hc with h|h|h|h|h|h|h|h|h|h|h|h|h|h|h
  all_goals
    obtain⟨h,hN⟩:=h
    (first|(exfalso;omega)|skip)
  all_goals
    unfold stepP
    rw[if_neg (by omega)]
    show stepW (sP 0) x (whatQ 0 x) _=_
    rw[show whatQ 0 x=_ from by unfold whatQ whatP;rw[hN]]
    unfold stepW
    dsimp only
    (repeat (fail))
    (rfl)
theorem CB0 (x:Int) (hx:0≤x∧x≤31∧x≠24∧x≠26∧x≠27):stepP (sP 0) x=(sP 0,[(2,x,0,e0,[],e0)]):=by
  have hc:=R3 x (by omega)
  rcases hc with h|h|h|h|h|h|h|h|h|h|h|h|h|h|h
  all_goals
    obtain⟨h,hN⟩:=h
    (first|(exfalso;omega)|skip)
  all_goals
    unfold stepP
    rw[if_neg (by omega)]
    show stepW (sP 0) x (whatQ 0 x) _=_
    rw[show whatQ 0 x=_ from by unfold whatQ whatP;rw[hN]]
    unfold stepW
    dsimp only
    (repeat (fail))
    (rfl)
theorem BJ8 (x:Int) (hx:x=27):stepP (sP 0) x=(sP 1,[]):=by
  have hc:=R3 x (by omega)
  rcases hc with h|h|h|h|h|h|h|h|h|h|h|h|h|h|h
  all_goals
    obtain⟨h,hN⟩:=h
    (first|(exfalso;omega)|skip)
  all_goals
    unfold stepP
    rw[if_neg (by omega)]
    show stepW (sP 0) x (whatQ 0 x) _=_
    rw[show whatQ 0 x=_ from by unfold whatQ whatP;rw[hN]]
    unfold stepW
    dsimp only
    (repeat (fail))
    (rfl)
theorem Bp4 (x:Int) (hx:32≤x∧x≤47):stepP (sP 1) x=((2,0,signB x,e0,e0),[]):=by
  have hc:=R3 x (by omega)
  rcases hc with h|h|h|h|h|h|h|h|h|h|h|h|h|h|h
  all_goals
    obtain⟨h,hN⟩:=h
    (first|(exfalso;omega)|skip)
  all_goals
    unfold stepP
    rw[if_neg (by omega)]
    show stepW (sP 1) x (whatQ 1 x) _=_
    rw[show whatQ 1 x=_ from by unfold whatQ whatP;rw[hN]]
    unfold stepW
    dsimp only
    (repeat (fail))
    (rfl)
theorem CG7 (i:ByteArray) (hi:i.size<3) (x:Int) (hx:32≤x∧x≤47):stepP ((2,0,i,e0,e0):Ps) x=((2,0,i++signB x,e0,e0),[]):=by
  have hc:=R3 x (by omega)
  rcases hc with h|h|h|h|h|h|h|h|h|h|h|h|h|h|h
  all_goals
    obtain⟨h,hN⟩:=h
    (first|(exfalso;omega)|skip)
  all_goals
    unfold stepP
    rw[if_neg (by omega)]
    show stepW ((2,0,i,e0,e0):Ps) x (whatQ 2 x) _=_
    rw[show whatQ 2 x=_ from by unfold whatQ whatP;rw[hN]]
    show (((2,0,if i.size<3 then i++signB x else i,e0,e0):Ps),([]:List Pa))=_
    rw[if_pos hi]
theorem B63 (x:Int) (hx:48≤x∧x≤126∧¬(x=91∨x=93∨x=80∨x=88∨x=94∨x=95)):stepP (sP 1) x=(sP 0,[finP (sP 1) x]):=by
  have hc:=R3 x (by omega)
  rcases hc with h|h|h|h|h|h|h|h|h|h|h|h|h|h|h
  all_goals
    obtain⟨h,hN⟩:=h
    (first|(exfalso;omega)|skip)
  all_goals
    unfold stepP
    rw[if_neg (by omega)]
    show stepW (sP 1) x (whatQ 1 x) _=_
    rw[show whatQ 1 x=_ from by unfold whatQ whatP;rw[hN]]
    unfold stepW
    dsimp only
    (repeat (fail))
    (rfl)
theorem B80 (i:ByteArray) (x:Int) (hx:48≤x∧x≤126):stepP ((2,0,i,e0,e0):Ps) x=(sP 0,[finP (2,0,i,e0,e0) x]):=by
  have hc:=R3 x (by omega)
  rcases hc with h|h|h|h|h|h|h|h|h|h|h|h|h|h|h
  all_goals
    obtain⟨h,hN⟩:=h
    (first|(exfalso;omega)|skip)
  all_goals
    unfold stepP
    rw[if_neg (by omega)]
    show stepW ((2,0,i,e0,e0):Ps) x (whatQ 2 x) _=_
    rw[show whatQ 2 x=_ from by unfold whatQ whatP;rw[hN]]
    unfold stepW
    dsimp only
    (repeat (fail))
    (rfl)
theorem CG8 (x:Int) (hx:x=91):stepP (sP 1) x=(sP 3,[]):=by
  have hc:=R3 x (by omega)
  rcases hc with h|h|h|h|h|h|h|h|h|h|h|h|h|h|h
  all_goals
    obtain⟨h,hN⟩:=h
    (first|(exfalso;omega)|skip)
  all_goals
    unfold stepP
    rw[if_neg (by omega)]
    show stepW (sP 1) x (whatQ 1 x) _=_
    rw[show whatQ 1 x=_ from by unfold whatQ whatP;rw[hN]]
    unfold stepW
    dsimp only
    (repeat (fail))
    (rfl)
theorem CI1 (x:Int) (hx:x=93):stepP (sP 1) x=(sP 7,[]):=by
  have hc:=R3 x (by omega)
  rcases hc with h|h|h|h|h|h|h|h|h|h|h|h|h|h|h
  all_goals
    obtain⟨h,hN⟩:=h
    (first|(exfalso;omega)|skip)
  all_goals
    unfold stepP
    rw[if_neg (by omega)]
    show stepW (sP 1) x (whatQ 1 x) _=_
    rw[show whatQ 1 x=_ from by unfold whatQ whatP;rw[hN]]
    unfold stepW
    dsimp only
    (repeat (fail))
    (rfl)
theorem B86 (x:Int) (hx:60≤x∧x≤63):stepP (sP 3) x=((4,x,e0,e0,e0),[]):=by
  have hc:=R3 x (by omega)
  rcases hc with h|h|h|h|h|h|h|h|h|h|h|h|h|h|h
  all_goals
    obtain⟨h,hN⟩:=h
    (first|(exfalso;omega)|skip)
  all_goals
    unfold stepP
    rw[if_neg (by omega)]
    show stepW (sP 3) x (whatQ 3 x) _=_
    rw[show whatQ 3 x=_ from by unfold whatQ whatP;rw[hN]]
    unfold stepW
    dsimp only
    (repeat (fail))
    (rfl)
theorem B47 (x:Int) (hx:(48≤x∧x≤57)∨x=59):stepP (sP 3) x=((4,0,e0,e0++signB x,e0),[]):=by
  have hc:=R3 x (by omega)
  rcases hc with h|h|h|h|h|h|h|h|h|h|h|h|h|h|h
  all_goals
    obtain⟨h,hN⟩:=h
    (first|(exfalso;omega)|skip)
  all_goals
    unfold stepP
    rw[if_neg (by omega)]
    show stepW (sP 3) x (whatQ 3 x) _=_
    rw[show whatQ 3 x=_ from by unfold whatQ whatP;rw[hN]]
    unfold stepW
    dsimp only
    (repeat (fail))
    (rfl)
theorem B52 (m:Int) (g:ByteArray) (hg:g.size<100) (x:Int) (hx:(48≤x∧x≤57)∨x=59):stepP ((4,m,e0,g,e0):Ps) x=((4,m,e0,g++signB x,e0),[]):=by
  have hc:=R3 x (by omega)
  rcases hc with h|h|h|h|h|h|h|h|h|h|h|h|h|h|h
  all_goals
    obtain⟨h,hN⟩:=h
    (first|(exfalso;omega)|skip)
  all_goals
    unfold stepP
    rw[if_neg (by omega)]
    show stepW ((4,m,e0,g,e0):Ps) x (whatQ 4 x) _=_
    rw[show whatQ 4 x=_ from by unfold whatQ whatP;rw[hN]]
    show (((4,m,e0,if g.size<100 then g++signB x else g,e0):Ps),([]:List Pa))=_
    rw[if_pos hg]
theorem Bp6 (x:Int) (hx:32≤x∧x≤47):stepP (sP 3) x=((5,0,signB x,e0,e0),[]):=by
  have hc:=R3 x (by omega)
  rcases hc with h|h|h|h|h|h|h|h|h|h|h|h|h|h|h
  all_goals
    obtain⟨h,hN⟩:=h
    (first|(exfalso;omega)|skip)
  all_goals
    unfold stepP
    rw[if_neg (by omega)]
    show stepW (sP 3) x (whatQ 3 x) _=_
    rw[show whatQ 3 x=_ from by unfold whatQ whatP;rw[hN]]
    unfold stepW
    dsimp only
    (repeat (fail))
    (rfl)
theorem Bq9 (m:Int) (g:ByteArray) (x:Int) (hx:32≤x∧x≤47):stepP ((4,m,e0,g,e0):Ps) x=((5,m,signB x,g,e0),[]):=by
  have hc:=R3 x (by omega)
  rcases hc with h|h|h|h|h|h|h|h|h|h|h|h|h|h|h
  all_goals
    obtain⟨h,hN⟩:=h
    (first|(exfalso;omega)|skip)
  all_goals
    unfold stepP
    rw[if_neg (by omega)]
    show stepW ((4,m,e0,g,e0):Ps) x (whatQ 4 x) _=_
    rw[show whatQ 4 x=_ from by unfold whatQ whatP;rw[hN]]
    unfold stepW
    dsimp only
    (repeat (fail))
    (rfl)
theorem Bp7 (m:Int) (i g:ByteArray) (hi:i.size<3) (x:Int) (hx:32≤x∧x≤47):stepP ((5,m,i,g,e0):Ps) x=((5,m,i++signB x,g,e0),[]):=by
  have hc:=R3 x (by omega)
  rcases hc with h|h|h|h|h|h|h|h|h|h|h|h|h|h|h
  all_goals
    obtain⟨h,hN⟩:=h
    (first|(exfalso;omega)|skip)
  all_goals
    unfold stepP
    rw[if_neg (by omega)]
    show stepW ((5,m,i,g,e0):Ps) x (whatQ 5 x) _=_
    rw[show whatQ 5 x=_ from by unfold whatQ whatP;rw[hN]]
    show (((5,m,if i.size<3 then i++signB x else i,g,e0):Ps),([]:List Pa))=_
    rw[if_pos hi]
theorem B66 (x:Int) (hx:64≤x∧x≤126):stepP (sP 3) x=(sP 0,[finP (sP 3) x]):=by
  have hc:=R3 x (by omega)
  rcases hc with h|h|h|h|h|h|h|h|h|h|h|h|h|h|h
  all_goals
    obtain⟨h,hN⟩:=h
    (first|(exfalso;omega)|skip)
  all_goals
    unfold stepP
    rw[if_neg (by omega)]
    show stepW (sP 3) x (whatQ 3 x) _=_
    rw[show whatQ 3 x=_ from by unfold whatQ whatP;rw[hN]]
    unfold stepW
    dsimp only
    (repeat (fail))
    (rfl)
theorem CB8 (m:Int) (g:ByteArray) (x:Int) (hx:64≤x∧x≤126):stepP ((4,m,e0,g,e0):Ps) x=(sP 0,[finP (4,m,e0,g,e0) x]):=by
  have hc:=R3 x (by omega)
  rcases hc with h|h|h|h|h|h|h|h|h|h|h|h|h|h|h
  all_goals
    obtain⟨h,hN⟩:=h
    (first|(exfalso;omega)|skip)
  all_goals
    unfold stepP
    rw[if_neg (by omega)]
    show stepW ((4,m,e0,g,e0):Ps) x (whatQ 4 x) _=_
    rw[show whatQ 4 x=_ from by unfold whatQ whatP;rw[hN]]
    unfold stepW
    dsimp only
    (repeat (fail))
    (rfl)
theorem BQ9 (m:Int) (i g:ByteArray) (x:Int) (hx:64≤x∧x≤126):stepP ((5,m,i,g,e0):Ps) x=(sP 0,[finP (5,m,i,g,e0) x]):=by
  have hc:=R3 x (by omega)
  rcases hc with h|h|h|h|h|h|h|h|h|h|h|h|h|h|h
  all_goals
    obtain⟨h,hN⟩:=h
    (first|(exfalso;omega)|skip)
  all_goals
    unfold stepP
    rw[if_neg (by omega)]
    show stepW ((5,m,i,g,e0):Ps) x (whatQ 5 x) _=_
    rw[show whatQ 5 x=_ from by unfold whatQ whatP;rw[hN]]
    unfold stepW
    dsimp only
    (repeat (fail))
    (rfl)
theorem B74 (t:ByteArray) (x:Int) (hx:(32≤x∧x≤126)∨(160≤x∧x≤1114111)) (hz:t.size+(rtB x).size≤256):stepP ((7,0,e0,e0,t):Ps) x=((7,0,e0,e0,t++rtB x),[]):=by
  have hc:=R3 x (by omega)
  rcases hc with h|h|h|h|h|h|h|h|h|h|h|h|h|h|h
  all_goals
    obtain⟨h,hN⟩:=h
    (first|(exfalso;omega)|skip)
  all_goals
    unfold stepP
    rw[if_neg (by omega)]
    show stepW ((7,0,e0,e0,t):Ps) x (whatQ 7 x) _=_
    rw[show whatQ 7 x=_ from by unfold whatQ whatP;rw[hN]]
    show (((7,0,e0,e0,if t.size+(rtB x).size≤256 then t++rtB x else t):Ps),([]:List Pa))=_
    rw[if_pos hz]
theorem CC8 (t:ByteArray) (x:Int) (hx:x=7):stepP ((7,0,e0,e0,t):Ps) x=(sP 0,[(5,0,0,e0,[],t)]):=by
  have hc:=R3 x (by omega)
  rcases hc with h|h|h|h|h|h|h|h|h|h|h|h|h|h|h
  all_goals
    obtain⟨h,hN⟩:=h
    (first|(exfalso;omega)|skip)
  all_goals
    unfold stepP
    rw[if_neg (by omega)]
    show stepW ((7,0,e0,e0,t):Ps) x (whatQ 7 x) _=_
    rw[show whatQ 7 x=_ from by unfold whatQ whatP;rw[hN]]
    unfold stepW
    dsimp only
    (repeat (fail))
    (rfl)
theorem AI4 {b:Int} (h:inB b=true):32≤b∧b≤47:=by unfold inB at h;exact of_decide_eq_true h
theorem AY0 {b:Int} (h:okA b=true):(48≤b∧b≤57)∨b=59:=by unfold okA at h;exact of_decide_eq_true h
theorem CH0 (i:ByteArray) (hi:inOk i) (hz:0<i.size):Qt (sP 1) (nums i) ((2,0,i,e0,e0):Ps):=by
  have hn:=Z6 i
  have hl:=nums_length i
  obtain⟨h1,h2⟩:=hi
  generalize nums i=N at *
  match N,hl with
  | [],hl=>simp at hl;omega
  | [b],_=>
    have hb:=AI4 (h1 b List.mem_cons_self)
    refine Qt.cons (Bp4 b hb) ?_
    rw[u6 b (by omega),hn]
    exact Qt.nil _
  | [b,d],_=>
    have hb:=AI4 (h1 b List.mem_cons_self)
    have hd:=AI4 (h1 d (List.mem_cons_of_mem _ List.mem_cons_self))
    have hz:(signB b).size<3:=by rw[u6 b (by omega),strOfNums_size];exact(by decide:1<3)
    refine Qt.cons (Bp4 b hb) (Qt.cons (CG7 _ hz d hd) ?_)
    rw[u6 b (by omega),u6 d (by omega),Y2,show [b]++[d]=[b,d] from rfl,hn]
    exact Qt.nil _
  | b::d::f::r,hl=>simp at hl;omega
theorem CE7 (i:ByteArray) (hi:inOk i) (hz:0<i.size):Qt (sP 3) (nums i) ((5,0,i,e0,e0):Ps):=by
  have hn:=Z6 i
  have hl:=nums_length i
  obtain⟨h1,h2⟩:=hi
  generalize nums i=N at *
  match N,hl with
  | [],hl=>simp at hl;omega
  | [b],_=>
    have hb:=AI4 (h1 b List.mem_cons_self)
    refine Qt.cons (Bp6 b hb) ?_
    rw[u6 b (by omega),hn]
    exact Qt.nil _
  | [b,d],_=>
    have hb:=AI4 (h1 b List.mem_cons_self)
    have hd:=AI4 (h1 d (List.mem_cons_of_mem _ List.mem_cons_self))
    have hz:(signB b).size<3:=by rw[u6 b (by omega),strOfNums_size];exact(by decide:1<3)
    refine Qt.cons (Bp6 b hb) (Qt.cons (Bp7 0 _ e0 hz d hd) ?_)
    rw[u6 b (by omega),u6 d (by omega),Y2,show [b]++[d]=[b,d] from rfl,hn]
    exact Qt.nil _
  | b::d::f::r,hl=>simp at hl;omega
theorem CF5 (m:Int) (g:ByteArray) (i:ByteArray) (hi:inOk i) (hz:0<i.size):Qt ((4,m,e0,g,e0):Ps) (nums i) ((5,m,i,g,e0):Ps):=by
  have hn:=Z6 i
  have hl:=nums_length i
  obtain⟨h1,h2⟩:=hi
  generalize nums i=N at *
  match N,hl with
  | [],hl=>simp at hl;omega
  | [b],_=>
    have hb:=AI4 (h1 b List.mem_cons_self)
    refine Qt.cons (Bq9 m g b hb) ?_
    rw[u6 b (by omega),hn]
    exact Qt.nil _
  | [b,d],_=>
    have hb:=AI4 (h1 b List.mem_cons_self)
    have hd:=AI4 (h1 d (List.mem_cons_of_mem _ List.mem_cons_self))
    have hz:(signB b).size<3:=by rw[u6 b (by omega),strOfNums_size];exact(by decide:1<3)
    refine Qt.cons (Bq9 m g b hb) (Qt.cons (Bp7 m _ g hz d hd) ?_)
    rw[u6 b (by omega),u6 d (by omega),Y2,show [b]++[d]=[b,d] from rfl,hn]
    exact Qt.nil _
  | b::d::f::r,hl=>simp at hl;omega
theorem Am6 {i:ByteArray} (h:i.size=0):i=e0∧nums i=[]:=by
  have h2:nums i=[]:=List.eq_nil_of_length_eq_zero (by rw[nums_length,h])
  exact⟨by rw[←Z6 i,h2];rfl,h2⟩
theorem BO8 (c:Int) (i:ByteArray) (h:48≤c∧c≤126) (hx:0<i.size∨¬(c=91∨c=93∨c=80∨c=88∨c=94∨c=95)) (hi:inOk i):Tells (sP 0) (27::(nums i++[c])) (3,c,0,i,[],e0):=by
  refine Tells.cons (BJ8 27 rfl) ?_
  by_cases hz:i.size=0
  · obtain⟨rfl,h2⟩:=Am6 hz
    rw[h2]
    exact Tells.one (B63 c ⟨h.1,h.2,hx.resolve_left (by omega)⟩)
  · refine Tells.app (CH0 i hi (by omega)) (Tells.one ((B80 i c h).trans ?_))
    unfold finP
    dsimp only
    rw[if_neg (show ¬i.size=3 by have:=hi.2;omega),if_pos (by decide)]
theorem Bq7 (m c:Int) (i g:ByteArray) (h:64≤c∧c≤126) (hi:inOk i):Tells ((4,m,e0,g,e0):Ps) (nums i++[c]) (4,c,m,i,(readA g).1,e0):=by
  by_cases hz:i.size=0
  · obtain⟨rfl,h2⟩:=Am6 hz
    rw[h2]
    exact Tells.one (CB8 m g c h)
  · refine Tells.app (CF5 m g i hi (by omega)) (Tells.one ((BQ9 m i g c h).trans ?_))
    unfold finP
    dsimp only
    rw[if_neg (show ¬i.size=3 by have:=hi.2;omega),if_neg (by decide)]
theorem CG5 (c:Int) (i:ByteArray) (h:64≤c∧c≤126) (hi:inOk i):Tells (sP 3) (nums i++[c]) (4,c,0,i,(readA e0).1,e0):=by
  by_cases hz:i.size=0
  · obtain⟨rfl,h2⟩:=Am6 hz
    rw[h2]
    exact Tells.one (B66 c h)
  · refine Tells.app (CE7 i hi (by omega)) (Tells.one ((BQ9 0 i e0 c h).trans ?_))
    unfold finP
    dsimp only
    rw[if_neg (show ¬i.size=3 by have:=hi.2;omega),if_neg (by decide)]
theorem A60 (m:Int):∀(L:List Int) (g:ByteArray),(∀x∈L,okA x=true)→g.size+L.length≤100→Qt ((4,m,e0,g,e0):Ps) L (4,m,e0,g++strOfNums L,e0)
  | [],g,_,_=>by
    rw[show g++strOfNums []=g from by rw[←Z6 g,Y2,List.append_nil]]
    exact Qt.nil _
  | x::L,g,h,hl=>by
    have hx:=AY0 (h x List.mem_cons_self)
    rw[List.length_cons] at hl
    refine Qt.cons (B52 m g (by omega) x hx) ?_
    have h2:=A60 m L (g++signB x) (fun y hy=>h y (List.mem_cons_of_mem _ hy)) (by rw[AM0,(AQ4 (x:=x) (by omega)).1];omega)
    rw[u6 x (by omega)] at h2 ⊢
    rw[show g++strOfNums (x::L)=(g++strOfNums [x])++strOfNums L from by rw[←Z6 g,Y2,Y2,Y2,List.append_assoc];rfl]
    exact h2
theorem B67 (L:List Int) (h:∀x∈L,okA x=true) (hl:L.length≤100) (h0:L≠[]):Qt (sP 3) L (4,0,e0,strOfNums L,e0):=by
  cases L with
  | nil=>exact absurd rfl h0
  | cons x L=>
    have hx:=AY0 (h x List.mem_cons_self)
    rw[List.length_cons] at hl
    refine Qt.cons (B47 x hx) ?_
    have h2:=A60 0 L (e0++signB x) (fun y hy=>h y (List.mem_cons_of_mem _ hy)) (by rw[AX4,(AQ4 (x:=x) (by omega)).1];omega)
    rw[AX4,u6 x (by omega)] at h2 ⊢
    rw[Y2] at h2
    exact h2
theorem BW9 (c m:Int) (i g:ByteArray) (h:64≤c∧c≤126) (hm:m=0∨(60≤m∧m≤63)) (hi:inOk i) (hg:∀x∈nums g,okA x=true) (hz:g.size≤100):Tells (sP 0) (27::91::((if m≠0 then [m] else [])++(nums (g++i)++[c]))) (4,c,m,i,(readA g).1,e0):=by
  refine Tells.cons (BJ8 27 rfl) (Tells.cons (CG8 91 rfl) ?_)
  have hl:=nums_length g
  rw[nums_append,List.append_assoc]
  by_cases h0:m=0
  · subst h0
    rw[if_neg (fun h=>h rfl),List.nil_append]
    by_cases hgz:g.size=0
    · obtain⟨rfl,h2⟩:=Am6 hgz
      rw[h2]
      exact CG5 c i h hi
    · refine Tells.app (B67 (nums g) hg (by omega) (fun e=>hgz (by rw[←hl,e];rfl))) ?_
      rw[Z6]
      exact Bq7 0 c i g h hi
  · rw[if_pos h0]
    have hm2:=hm.resolve_left h0
    show Tells (sP 3) (m::(nums g++(nums i++[c]))) _
    refine Tells.cons (B86 m hm2) (Tells.app (A60 m (nums g) e0 hg (by rw[hl];exact(Nat.zero_add _).symm▸hz)) ?_)
    rw[AX4,Z6]
    exact Bq7 m c i g h hi
theorem Bb5 {x:Int} (h:cpR x):(32≤x∧x≤126)∨(160≤x∧x≤1114111):=by
  unfold cpR isR at h
  omega
theorem BT4:∀(R:List Int) (t:ByteArray),(∀x∈R,cpR x)→t.size+(encL R).length≤256→Qt ((7,0,e0,e0,t):Ps) R (7,0,e0,e0,t++strOfNums (encL R))
  | [],t,_,_=>by
    rw[show t++strOfNums (encL [])=t from by rw[←Z6 t,Y2,show encL []=[] from rfl,List.append_nil]]
    exact Qt.nil _
  | x::R,t,h,hl=>by
    have hx:=h x List.mem_cons_self
    rw[AJ4,List.length_append] at hl
    have hz:(rtB x).size=(runeL (fixR x)).length:=by unfold rtB;rw[strOfNums_size]
    refine Qt.cons (B74 t x (Bb5 hx) (by omega)) ?_
    have h2:=BT4 R (t++rtB x) (fun y hy=>h y (List.mem_cons_of_mem _ hy)) (by rw[AM0];omega)
    rw[show t++strOfNums (encL (x::R))=(t++rtB x)++strOfNums (encL R) from by
      rw[AJ4]
      unfold rtB
      rw[←Z6 t,Y2,Y2,Y2,List.append_assoc]]
    exact h2
theorem BT7 (R:List Int) (h:∀x∈R,cpR x) (hl:(encL R).length≤256):Tells (sP 0) (27::93::(R++[7])) (5,0,0,e0,[],strOfNums (encL R)):=by
  refine Tells.cons (BJ8 27 rfl) (Tells.cons (CI1 93 rfl) (Tells.app (BT4 R e0 h (by rw[show e0.size=0 from rfl];omega)) ?_))
  rw[AX4]
  exact Tells.one (CC8 _ 7 rfl)
end
section
set_option maxHeartbeats 2000000
def natsI (l:List UInt8):List Int:=l.map fun u=>(u.toNat:Int)
theorem An4 (s:ByteArray):nums s=natsI s.data.toList:=rfl
theorem BS3 (a b:List UInt8):natsI (a++b)=natsI a++natsI b:=List.map_append
theorem B03:∀(n:Nat),∀u∈Lib.decDigits n,48≤u.toNat∧u.toNat≤57:=by
  intro n
  induction n using Nat.strongRecOn with
  | _ n ih=>
    intro u hu
    rw[Lib.decDigits] at hu
    have hof:∀k,k<10→(UInt8.ofNat (48+k)).toNat=48+k:=fun k hk=>by
      rw[UInt8.toNat_ofNat']
      omega
    split at hu
    · rename_i h
      rw[List.mem_singleton] at hu
      rw[hu,hof n h]
      omega
    · rename_i h
      rcases List.mem_append.1 hu with hu|hu
      · exact ih (n / 10) (by omega) u hu
      · rw[List.mem_singleton] at hu
        rw[hu,hof (n % 10) (by omega)]
        omega
/-- The digits, as numbers. -/
def digI (n:Nat):List Int:=natsI (Lib.decDigits n)
theorem B19 (n:Nat):digI n=if n<10 then [48+(n:Int)] else digI (n / 10)++[48+((n % 10:Nat):Int)]:=by
  have hof:∀k,k<10→natsI [UInt8.ofNat (48+k)]=[48+(k:Int)]:=fun k hk=>by
    unfold natsI
    rw[List.map_cons,List.map_nil,UInt8.toNat_ofNat']
    congr 1
    omega
  unfold digI
  rw[Lib.decDigits]
  split
  · rename_i h
    rw[hof n h]
  · rw[BS3,hof (n % 10) (by omega)]
theorem Bj2:∀(n:Nat),n≤16383→numA (digI n)=n:=by
  intro n
  induction n using Nat.strongRecOn with
  | _ n ih=>
    intro hn
    rw[B19]
    split
    · rename_i h
      unfold numA
      rw[List.foldl_cons,List.foldl_nil]
      unfold stepA
      omega
    · rename_i h
      rw[Ar6,ih (n / 10) (by omega) (by omega)]
      unfold stepA
      omega
end
section
set_option maxHeartbeats 2000000
/-- The front of a text is a rune's bytes. -/
theorem AF7 {x:Int} (h:isR x):
    ((0≤x∧x<128)∧runeL x=[x])∨((128≤x∧x<2048)∧runeL x=[192+x / 64,128+x % 64])∨((2048≤x∧x<65536∧¬(55296≤x∧x≤57343))∧runeL x=[224+x / 4096,128+x / 64 % 64,128+x % 64])∨((65536≤x∧x≤1114111)∧runeL x=[240+x / 262144,128+x / 4096 % 64,128+x / 64 % 64,128+x % 64]):=by
  unfold isR at h
  unfold runeL
  by_cases h1:x<128
  · exact .inl ⟨by omega,if_pos h1⟩
  by_cases h2:x<2048
  · exact .inr (.inl ⟨by omega,by rw[if_neg h1,if_pos h2]⟩)
  by_cases h3:x<65536
  · exact .inr (.inr (.inl ⟨by omega,by rw[if_neg h1,if_neg h2,if_pos h3]⟩))
  · exact .inr (.inr (.inr ⟨by omega,by rw[if_neg h1,if_neg h2,if_neg h3]⟩))
theorem AO6 {x:Int} (h:isR x):fixR x=x:=by rw[Bw2,if_pos h]
theorem AP7 (x:Int):1≤(runeL x).length:=by unfold runeL;split<;>(try split)<;>(try split)<;>simp
theorem By2 {x:Int} (h:isR x):wfU (runeL x)=true:=by
  rcases AF7 h with ⟨h,e⟩|⟨h,e⟩|⟨h,e⟩|⟨h,e⟩<;>rw[e]<;>simp only[wfU,decide_eq_true_eq]<;>omega
theorem Bn0 {x:Int} (h:isR x) (h2:¬x<128):valU (runeL x)=x:=by
  rcases AF7 h with ⟨h,e⟩|⟨h,e⟩|⟨h,e⟩|⟨h,e⟩
  · omega
  all_goals
    rw[e]
    simp only[valU]
    omega
theorem Au4 {x:Int} (h:isR x) (B:List Int):(x<128→(runeL x++B).getD 0 0=x)∧(¬x<128→¬(runeL x++B).getD 0 0<128):=by
  rcases AF7 h with ⟨h,e⟩|⟨h,e⟩|⟨h,e⟩|⟨h,e⟩<;>rw[e]<;>simp<;>omega
theorem Au2 {x:Int} (h:isR x) (B:List Int):stepU (runeL x++B)=some (x,(runeL x).length):=by
  obtain⟨h1,h2⟩:=Au4 h B
  unfold stepU
  by_cases hx:x<128
  · rw[if_pos (by rw[h1 hx];exact hx),h1 hx]
    rcases AF7 h with ⟨h,e⟩|⟨h,e⟩|⟨h,e⟩|⟨h,e⟩
    · rw[e];rfl
    all_goals omega
  · rw[if_neg (h2 hx)]
    have hw:=B30 (runeL x++B) (h2 hx) (runeL x).length (AP7 x) (by rw[List.length_append];omega) (AT8 x)
    rw[List.take_left',By2 h] at hw
    · have hw2:=Bool.and_eq_true_iff.1 hw.symm
      have h3:=of_decide_eq_true hw2.2
      rw[if_pos hw2.1,←h3,Int.toNat_natCast,List.take_left',Bn0 h hx]
      rfl
    · rfl
/-- What is encoded is read again. -/
theorem BD4:∀(R:List Int) (m:Nat),(∀x∈R,isR x)→(encL R).length≤m→runU m (encL R)=([],R)
  | [],m,_,_=>Af1 m
  | x::R,m,hR,hm=>by
    have hx:=hR x List.mem_cons_self
    have hp:=AP7 x
    rw[AJ4,AO6 hx] at hm ⊢
    rw[List.length_append] at hm
    rw[AZ5 (by omega) (fun e=>by rw[List.append_eq_nil_iff] at e;rw[e.1] at hp;simp at hp) (Au2 hx (encL R)),List.drop_left',BD4 R (m-1) (fun y hy=>hR y (List.mem_cons_of_mem _ hy)) (by omega)]
    rfl
theorem AH7 (R:List Int):∀x∈encL R,0≤x∧x≤255:=by
  intro x hx
  unfold encL at hx
  obtain⟨c,_,hc⟩:=List.mem_flatMap.1 hx
  have:=BH5 (fixR c) (by unfold fixR;split<;>omega) (by unfold fixR;split<;>omega) x hc
  omega
theorem A21 (R:List Int):nums (strOfNums (encL R))=encL R:=Y8 (AH7 R)
/-- The runes of a text. -/
def runT (t:ByteArray):List Int:=(runU t.size (nums t)).2
theorem Be7 {R:List Int} (h:∀x∈R,isR x):runT (strOfNums (encL R))=R:=by
  unfold runT
  rw[A21,BD4 R _ h (by rw[strOfNums_size];exact Nat.le_refl _)]
/-- The model's own reading of a rune. -/
theorem BB5 (s:ByteArray) (pos:Nat) (x:Int) (B:List Int) (hx:isR x) (h:(nums s).drop pos=runeL x++B):Utf8.decode s pos=(x.toNat,(runeL x).length):=by
  have hl:=nums_length s
  have hsz:(runeL x).length+B.length=s.size-pos:=by rw[←List.length_append,←h,List.length_drop,hl]
  have hg:∀k,k<(runeL x).length→(((s.get! (pos+k)).toNat:Nat):Int)=(runeL x).getD k 0:=fun k hk=>by
    rw[Ay7 s (pos+k) (by omega)]
    have e:((nums s).drop pos)[k]? =(nums s)[pos+k]? :=List.getElem?_drop
    rw[h,List.getElem?_append_left hk] at e
    rw[List.getD_eq_getElem?_getD,List.getD_eq_getElem?_getD,←e]
  rw[Lib.decode_at]
  have g0:=hg 0
  have g1:=hg 1
  have g2:=hg 2
  have g3:=hg 3
  rw[Nat.add_zero] at g0
  clear hg h
  generalize (s.get! pos).toNat=x0 at *
  generalize (s.get! (pos+1)).toNat=x1 at *
  generalize (s.get! (pos+2)).toNat=x2 at *
  generalize (s.get! (pos+3)).toNat=x3 at *
  generalize s.size-pos=N at *
  rcases AF7 hx with ⟨h,e⟩|⟨h,e⟩|⟨h,e⟩|⟨h,e⟩
  all_goals
    rw[e] at g0 g1 g2 g3 hsz ⊢
    simp at g0 g1 g2 g3 hsz ⊢
    unfold Lib.decodeN
    repeat' split
    all_goals (first|(exfalso;omega)|(apply Prod.ext<;>simp only<;>omega))
end
section
set_option maxHeartbeats 2000000
theorem At0 (n:Int):(argS n).data.toList=if n<0 then [] else Lib.decDigits n.toNat:=by
  unfold argS
  split
  · rfl
  · rfl
theorem Bh3 (n:Int) (h: -1≤n∧n≤16383):numA (nums (argS n))=n:=by
  rw[An4,At0]
  split
  · obtain rfl:n= -1:=by omega
    rfl
  · rw[show natsI (Lib.decDigits n.toNat)=digI n.toNat from rfl,Bj2 _ (by omega)]
    omega
theorem A44 (n:Int):∀u∈(argS n).data.toList,48≤u.toNat∧u.toNat≤57:=by
  rw[At0]
  split
  · exact fun _ h=>nomatch h
  · exact B03 _
theorem Ak6 (c:UInt8):∀(W:List (List UInt8)) (x:List UInt8),(∀w∈x::W,¬c∈w)→u7 c [] (Lib.join (x::W) [c])=x::W
  | [],x,h=>by rw[Lib.join_one,Ab8 c x [] (h x List.mem_cons_self)];rfl
  | y::W,x,h=>by
    have ih:=Ak6 c W y (fun w hw=>h w (List.mem_cons_of_mem _ hw))
    rw[Lib.join_cons] at ih ⊢
    show u7 c [] (x++((([c]++y)::W.map ([c]++ ·)).flatten))=_
    rw[List.flatten_cons]
    show u7 c [] (x++c::(y++Lib.joinTail [c] W))=_
    rw[AS7 c x _ [] (h x List.mem_cons_self),ih]
    rfl
theorem Bg4 (sep:List UInt8):∀(W:List (List UInt8)) (u:UInt8),u∈Lib.join W sep→u∈sep∨∃w∈W,u∈w
  | [],u,h=>nomatch h
  | x::W,u,h=>by
    rw[Lib.join_cons] at h
    rcases List.mem_append.1 h with h|h
    · exact .inr ⟨x,List.mem_cons_self,h⟩
    · unfold Lib.joinTail at h
      obtain⟨l,hl,hu⟩:=List.mem_flatten.1 h
      obtain⟨w,hw,rfl⟩:=List.mem_map.1 hl
      rcases List.mem_append.1 hu with hu|hu
      · exact .inl hu
      · exact .inr ⟨w,List.mem_cons_of_mem _ hw,hu⟩
/-- The numbers of a text that was written. -/
theorem AR6 (L:List Int) (h0:L≠[]) (hL:∀n∈L,-1≤n∧n≤16383) (hl:L.length≤32):(∀x∈nums (textA L),okA x=true)∧readA (textA L)=(L,0):=by
  have hd:(textA L).data.toList=Lib.join (L.map fun n=>(argS n).data.toList) [59]:=by
    unfold textA joinS
    rw[List.toList_toArray,List.map_map]
    rfl
  have hok:∀x∈nums (textA L),okA x=true:=fun x hx=>by
    rw[An4,hd] at hx
    obtain⟨u,hu,rfl⟩:=List.mem_map.1 hx
    unfold okA
    rw[decide_eq_true_eq]
    rcases Bg4 _ _ u hu with hu|⟨w,hw,hu⟩
    · rw[List.mem_singleton] at hu
      subst hu
      exact .inr rfl
    · obtain⟨n,_,rfl⟩:=List.mem_map.1 hw
      have:=A44 n u hu
      omega
  refine⟨hok,?_⟩
  unfold readA
  rw[if_pos (List.all_eq_true.2 hok)]
  have hw:AF5 59 (textA L)=L.map argS:=by
    unfold AF5
    rw[hd]
    cases L with
    | nil=>exact absurd rfl h0
    | cons n L=>
      rw[List.map_cons,Ak6 59 _ _ (fun w hw=>by
        rw[←List.map_cons (f:=fun n=>(argS n).data.toList)] at hw
        obtain⟨k,_,rfl⟩:=List.mem_map.1 hw
        intro h
        have:=A44 k 59 h
        exact absurd this.2 (by decide)),←List.map_cons (f:=fun n=>(argS n).data.toList),List.map_map]
      exact List.map_congr_left fun n _=>by
        show baL (argS n).data.toList=_
        unfold baL
        cases argS n
        rfl
  rw[hw,List.take_of_length_le (by rw[List.length_map];exact hl),List.map_map]
  congr 1
  conv=>rhs;rw[←List.map_id L]
  exact List.map_congr_left fun n hn=>Bh3 n (hL n hn)
theorem AU1 {L:List Int} (h:(l8 L).2=0):(l8 L).1=textA L∧L≠[]∧(∀n∈L,-1≤n∧n≤16383)∧L.length≤32:=by
  unfold l8 at h ⊢
  by_cases h1:L=[]∨L.any badA=true
  · rw[if_pos h1] at h;exact absurd h (by decide)
  rw[if_neg h1] at h ⊢
  by_cases h2:32<L.length
  · rw[if_pos h2] at h;exact absurd h (by decide)
  rw[if_neg h2]
  refine⟨rfl,fun e=>h1 (.inl e),fun n hn=>?_,by omega⟩
  refine Classical.byContradiction fun hb=>h1 (.inr (List.any_eq_true.2 ⟨n,hn,?_⟩))
  unfold badA
  rw[Bool.or_eq_true,decide_eq_true_eq,decide_eq_true_eq]
  omega
/-- The acts that can be written. -/
def goodW (y:Pa):Prop:=goodE y∧y≠dP∧(y.1=1→isR y.2.1)∧(y.1=4→(l8 y.2.2.2.2.1).2=0∧(l8 y.2.2.2.2.1).1.size≤100)
def csiW (y:Pa):List Int:=27::91::((if y.2.2.1≠0 then [y.2.2.1] else [])++(nums ((l8 y.2.2.2.2.1).1++y.2.2.2.1)++[y.2.1]))
def Y9 (y:Pa):List Int:=
  if y.1=1∨y.1=2 then [y.2.1] else if y.1=3 then 27::(nums y.2.2.2.1++[y.2.1]) else if y.1=4 then csiW y else if y.1=5 then 27::93::(runT y.2.2.2.2.2++[7]) else []
/-- The document's list, ahead of its check. -/
def listW (y:Pa):Option (List Int):=if y.1=4∧((l8 y.2.2.2.2.1).2≠0∨100<(l8 y.2.2.2.2.1).1.size) then none else some (Y9 y)
def chkW (y:Pa) (l:List Int):Prop:=l≠[]∧runP (sP 0) l=(sP 0,[y])∧∀x∈l,isR x
theorem AC1 {x:Int} (h:0≤x∧x≤255):isR x:=by unfold isR;omega
theorem A06 (s:ByteArray):∀x∈nums s,isR x:=fun x hx=>by
  unfold nums at hx
  obtain⟨u,_,rfl⟩:=List.mem_map.1 hx
  have:=u.toNat_lt
  exact AC1 (by omega)
/-- What can be written, is. -/
theorem A59 {y:Pa} (h:goodW y):listW y=some (Y9 y)∧chkW y (Y9 y):=by
  obtain⟨h1,h2,h3,h4⟩:=h
  rcases h1 with ⟨c,rfl,hc⟩|⟨c,rfl,hc⟩|⟨c,i,rfl,hc1,hc2,hc3,hi⟩|⟨c,m,i,L,rfl,hc1,hc2,hm,hi⟩|⟨t,rfl,ht⟩|h1
  · refine⟨if_neg (fun e=>absurd (show (1:Int)=4 from e.1) (by decide)),fun e=>absurd e (by rw[show Y9 (1,c,0,e0,[],e0)=[c] from rfl];exact List.cons_ne_nil _ _),Tells.one (Bx4 c hc),fun x hx=>?_⟩
    rw[show Y9 (1,c,0,e0,[],e0)=[c] from rfl,List.mem_singleton] at hx
    rw[hx]
    exact h3 rfl
  · refine⟨if_neg (fun e=>absurd (show (2:Int)=4 from e.1) (by decide)),fun e=>absurd e (by rw[show Y9 (2,c,0,e0,[],e0)=[c] from rfl];exact List.cons_ne_nil _ _),Tells.one (CB0 c hc),fun x hx=>?_⟩
    rw[show Y9 (2,c,0,e0,[],e0)=[c] from rfl,List.mem_singleton] at hx
    rw[hx]
    exact AC1 (by omega)
  · have e1:Y9 (3,c,0,i,[],e0)=27::(nums i++[c]):=rfl
    refine⟨if_neg (fun e=>absurd (show (3:Int)=4 from e.1) (by decide)),?_,?_,fun x hx=>?_⟩
    · rw[e1];exact List.cons_ne_nil _ _
    · rw[e1];exact BO8 c i ⟨hc1,hc2⟩ hc3 hi
    · rw[e1] at hx
      rcases List.mem_cons.1 hx with rfl|hx
      · exact AC1 (by omega)
      · rcases List.mem_append.1 hx with hx|hx
        · exact A06 i x hx
        · rw[List.mem_singleton] at hx;exact AC1 (by omega)
  · obtain⟨ha,hz⟩:=h4 rfl
    dsimp only at ha hz
    obtain⟨hw,w1,w2,w3⟩:=AU1 ha
    obtain⟨r1,r2⟩:=AR6 L w1 w2 w3
    have e1:Y9 (4,c,m,i,L,e0)=27::91::((if m≠0 then [m] else [])++(nums (textA L++i)++[c])):=by
      show csiW _=_
      unfold csiW
      dsimp only
      rw[hw]
    refine⟨if_neg (fun e=>e.2.elim (fun h=>h ha) (fun h=>absurd hz (by dsimp only at h;omega))),?_,?_,fun x hx=>?_⟩
    · rw[e1];exact List.cons_ne_nil _ _
    · rw[e1]
      have:=BW9 c m i (textA L) ⟨hc1,hc2⟩ hm hi r1 (by rw[←hw];exact hz)
      rw[r2] at this
      exact this
    · rw[e1] at hx
      rcases List.mem_cons.1 hx with rfl|hx
      · exact AC1 (by omega)
      rcases List.mem_cons.1 hx with rfl|hx
      · exact AC1 (by omega)
      rcases List.mem_append.1 hx with hx|hx
      · split at hx
        · rw[List.mem_singleton] at hx;exact AC1 (by omega)
        · exact nomatch hx
      · rcases List.mem_append.1 hx with hx|hx
        · exact A06 _ x hx
        · rw[List.mem_singleton] at hx;exact AC1 (by omega)
  · obtain⟨hz,R,hR,rfl⟩:=ht
    have hRr:∀x∈R,isR x:=fun x hx=>(hR x hx).1
    have e1:Y9 (5,0,0,e0,[],strOfNums (encL R))=27::93::(R++[7]):=by
      show 27::93::(runT (strOfNums (encL R))++[7])=_
      rw[Be7 hRr]
    refine⟨if_neg (fun e=>absurd (show (5:Int)=4 from e.1) (by decide)),?_,?_,fun x hx=>?_⟩
    · rw[e1];exact List.cons_ne_nil _ _
    · rw[e1];exact BT7 R hR (by rw[←strOfNums_size];exact hz)
    · rw[e1] at hx
      rcases List.mem_cons.1 hx with rfl|hx
      · exact AC1 (by omega)
      rcases List.mem_cons.1 hx with rfl|hx
      · exact AC1 (by omega)
      rcases List.mem_append.1 hx with hx|hx
      · exact hRr x hx
      · rw[List.mem_singleton] at hx;exact AC1 (by omega)
  · exact absurd h1 h2
end
section
set_option maxHeartbeats 2000000
attribute [local irreducible] SW SL SQ AtQ SV SC BB LD PK Yields SO SOT SOA SY SP SPT SPA
theorem Ba7 (X:List Int) (x:Int) (Y:List Int) (hx:isR x):encL (X++x::Y)=encL X++(runeL x++encL Y)∧encL (X++[x])=encL X++runeL x:=by
  refine⟨?_,by rw[At7,AO6 hx]⟩
  unfold encL
  rw[List.flatMap_append,List.flatMap_cons]
  rw[AO6 hx]
theorem BR3 (X:List Int) (x:Int):ints (X++[x])=ints X++[.int .i64 x]:=by simp [ints]
theorem Bk4 (G:Ctx) (H:List Ent) (R:List Int) (hR:∀x∈R,isR x) (s:ByteArray) (hs:s=strOfNums (encL R)) (hz:s.size≤2000000):SC Tryz.prog G 118 [.string s] H (fun v H'=>∃a' c',v= .slice a' R.length c'∧H'= .own 3 1 a' R.length c' (ints R)::H):=by
  have hn:=A21 R
  rw[←hs] at hn
  have hlen:(encL R).length=s.size:=by rw[hs,strOfNums_size]
  clear hs
  have Hn:=Lib.hid hn
  have Hlen:=Lib.hid hlen
  have HR:=Lib.hid hR
  have hRl:R.length≤s.size:=by
    rw[←hlen]
    clear hn hlen hz Hn Hlen HR
    induction R with
    | nil=>exact Nat.zero_le _
    | cons x R ih=>
      have:=ih (fun y hy=>hR y (List.mem_cons_of_mem _ hy))
      have hp:=AP7 (fixR x)
      rw[AJ4,List.length_append,List.length_cons]
      omega
  clear hn hlen hR
  refine Y3 Tryz.func118 rfl rfl rfl rfl rfl ?_
  repeat' (first|(apply F3;first|(apply C8;refine A8 ?_)|(apply C9;refine D8 rfl rfl ?_)|(apply D6;refine D9 rfl rfl ?_)|(refine BH9 rfl rfl rfl rfl rfl (fun _=>?_)))|(apply D7)|(apply F6)|((fail_if_success (refine K3 (id:=3) ?_));apply A7)|(apply D5))
  rename_i r
  refine R9 (α:=List Int×List Int×Option Addr×Nat) (fun z=>[(7,.pointer (some ⟨r,0,none⟩)),(3,.slice z.2.2.1 z.1.length z.2.2.2)]) (fun z=> .own 3 1 z.2.2.1 z.1.length z.2.2.2 (ints z.1):: .obj r (.stringIter s (encL z.1).length)::H)
    (fun z=>R=z.1++z.2.1) (fun z=>z.2.1.length) ([],R,none,0) rfl (by repeat (first|exact Le.nil _|refine Le.cons (by (rfl)) ?_)) (fun _ hw=>(hw.nilrow _ _).subs (by repeat (first|refine Subs.cons (by repeat constructor) ?_ |exact Subs.sub N7))) ?_
  rintro ⟨X,Y,a,c⟩ hq
  dsimp only at hq ⊢
  cases Y with
  | cons x Y=>
    have hx:isR x:=HR.out x (by rw[hq];exact List.mem_append_right _ List.mem_cons_self)
    obtain⟨e1,e2⟩:=Ba7 X x Y hx
    rw[←hq] at e1
    have hp:=AP7 x
    have hl:=Hlen.out
    rw[e1,List.length_append,List.length_append] at hl
    have h1:Utf8.decode s (encL X).length=(x.toNat,(runeL x).length):=BB5 s _ x (encL Y) hx (by rw[Hn.out,e1,List.drop_left'];rfl)
    have h2:(encL X).length<s.size:=by omega
    have h3:(encL X).length+(runeL x).length=(encL (X++[x])).length:=by rw[e2,List.length_append]
    have hxi:((x.toNat:Nat):Int)=x:=by unfold isR at hx;omega
    have hxb:0≤x∧x≤1114111:=by unfold isR at hx;omega
    have hXl:X.length<R.length:=by rw[hq,List.length_append,List.length_cons];omega
    have Hq:=Lib.hid hq
    clear hq hx e1 e2 hp hl
    repeat' (first|(apply F3;first|(apply C8;refine A8 ?_)|(apply C9;refine D8 rfl rfl ?_)|(apply D6;refine D9 rfl rfl ?_)|(apply Q6;refine U2 (K7 rfl rfl rfl) rfl ?_)|(apply p8;refine x9 (AA5 (k:= .i64) rfl rfl ⟨by omega,by omega⟩) rfl ?_)|(apply J5;refine R6 rfl rfl rfl rfl (by (rfl)) (by (rfl)) (by omega) rfl rfl (fun _ _=>?_))|(apply V8;refine M7 rfl rfl rfl rfl rfl rfl rfl rfl rfl rfl (fun _=>?_))|(refine B06 rfl rfl rfl rfl rfl h2 h1 hxi h3 ?_))|(apply D7)|(apply G9)|(apply F6)|(apply A7)|(refine G5 rfl ?_;apply I7)|(apply D5)|(apply J2))
    all_goals (skip)
    rename_i b5 a5 c5
    refine J6 (X++[x],Y,a5,c5) ⟨by dsimp only;rw[Hq.out,List.append_assoc];rfl,by dsimp only;exact Nat.lt_succ_self _⟩ (by dsimp only;rw[List.length_append];exact(by repeat (first|exact Le.nil _|refine Le.cons (by (rfl)) ?_))) ?_
    dsimp only
    rw[BR3,List.length_append]
    exact I8
  | nil=>
    rw[List.append_nil] at hq
    subst hq
    have hend:¬(encL R).length<s.size:=by rw[Hlen.out];omega
    repeat' (first|(apply F3;first|(apply C8;refine A8 ?_)|(apply C9;refine D8 rfl rfl ?_)|(apply D6;refine D9 rfl rfl ?_)|(apply Q6;refine U2 (K7 rfl rfl rfl) rfl ?_)|(refine By3 rfl rfl rfl rfl rfl hend ?_))|(apply D7)|(apply H7)|(apply N8)|(apply A7)|(refine G5 rfl ?_;apply I5)|(apply D5)|(apply J7)|(apply J8))
    all_goals (skip)
    refine M9 (.own 3 1 a R.length c (ints R)::H) (by (exact .inr rfl)) rfl I8 ⟨_,_,rfl,rfl⟩
end
section
set_option maxHeartbeats 2000000
/-- Has an act no other parts than its own? -/
def plB (k c m:Int) (i:ByteArray) (n:Int) (t:ByteArray):Bool:=decide ((k=4∨(m=0∧n=0))∧(k=4∨k=3∨i=⟨#[]⟩)∧(k=5∨t=⟨#[]⟩)∧(k≠5∨c=0))
attribute [local irreducible] SW SL SQ AtQ SV SC BB LD PK Yields SO SOT SOA SY SP SPT SPA
theorem BB3 (G:Ctx) (H:List Ent) (k c m:Int) (i:ByteArray) (a:Option Addr) (n cp:Nat) (t:ByteArray):SV Tryz.prog G 115 [acV k c m i a n cp t] H (.bool (plB k c m i n t)):=by
  refine M5 Tryz.func115 rfl rfl rfl rfl rfl ?_
  repeat' (first|(apply F3;first|(apply C8;refine A8 ?_)|(apply C9;refine D8 rfl rfl ?_)|(apply E5;refine F5 rfl rfl rfl ?_;first|(refine AH9 ?_)|(refine F7 rfl ?_))|(apply F4;refine F8 rfl rfl ?_;refine G6 rfl ?_)|(apply D6;refine D9 rfl rfl ?_)|(apply I6;refine I9 rfl rfl ?_;first|(apply Q9;refine Q8 rfl ?_)|(apply O1;refine O3 rfl ?_))|(apply G7;refine G8 (E8 rfl rfl) rfl ?_)|(apply Y0;refine Z8 (Z7 rfl rfl rfl) rfl ?_)|(apply J5;refine s_call (Q5 rfl rfl) rfl ?_)|(apply K9;refine O5 rfl rfl rfl rfl rfl rfl (fun _=>?_))|(apply I1;first|(refine J9 rfl rfl rfl rfl ?_;first|(apply I7)|(apply I5)|(apply X9)|(apply E9<;>intro hq<;>(try (exfalso;omega)))|(apply O8<;>intro hq<;>(try (exfalso;omega)))|(apply AP0<;>intro hq<;>(try (exfalso;omega))))|refine o5 rfl rfl rfl rfl rfl rfl ?_))|(apply AN1;first|(apply AF4;refine AF2 ?_)|(apply AG3;refine AK5 rfl rfl rfl ?_;refine F7 rfl ?_)|(apply AE1;refine AE9 rfl rfl ?_;refine G6 rfl ?_)|(apply AG4;refine AK1 rfl rfl ?_)|(apply AJ6;refine AI8 (E8 rfl rfl) rfl ?_))|(apply D7)|(apply H7)|(apply A7)|(apply D5)|refine AC9 (by kernel_rfl) ?_)
  all_goals
    refine M3 (by (exact .inr rfl)) rfl N7 ?_
    refine congrArg Value.bool ?_
    unfold plB
    (first|(simp [*];done)|(simp [*];intro h;omega)|(simp [*];rw[Bool.eq_iff_iff];simp))
end
section
set_option maxHeartbeats 2000000
/-- What is answered of an act. -/
def WrR (G:Ctx) (H:List Ent) (y:Pa) (v:Value) (H':List Ent):Prop:=
  ∃(F:List Ent) (l:List Int) (a':Option Addr) (c':Nat) (e:Int),v= .tuple #[.slice a' l.length c',.int .i64 e]∧l.length≤4000000∧Sl ints G F (a',c',l)∧H'=F++H∧((goodW y∧l=Y9 y∧e=0)∨(¬goodW y∧l=[]∧e=1))
theorem WrR.no {G:Ctx} {H:List Ent} {y:Pa} (h:¬goodW y):WrR G H y (.tuple #[.slice none 0 0,.int .i64 1]) H:=
  ⟨[],[],none,0,1,rfl,Nat.zero_le _,fun _ _=>⟨Nat.zero_le _,Nat.zero_le _,.inl rfl⟩,rfl,.inr ⟨h,rfl,rfl⟩⟩
theorem WrR.yes {G:Ctx} {H:List Ent} {y:Pa} {a':Option Addr} {n c':Nat} {l:List Int} (h:goodW y) (hl:l=Y9 y) (hn:n=l.length) (hm:n≤100000):WrR G H y (.tuple #[.slice a' n c',.int .i64 0]) (.own 3 1 a' n c' (ints l)::H):=by
  subst hn
  exact⟨[.own 3 1 a' l.length c' (ints l)],l,a',c',0,rfl,by omega,Sl.own List.mem_cons_self rfl rfl,rfl,.inl ⟨h,hl,rfl⟩⟩
theorem WrR.yes2 {G:Ctx} {H:List Ent} {y:Pa} {a':Option Addr} {n c':Nat} {xs:List Value} (l:List Int) (h:goodW y) (hl:l=Y9 y) (hx:xs=ints l) (hn:n=l.length) (hm:n≤100000):WrR G H y (.tuple #[.slice a' n c',.int .i64 0]) (.own 3 1 a' n c' xs::H):=by
  subst hx
  exact WrR.yes h hl hn hm
theorem B00 {c:Int}:goodW (1,c,0,e0,[],e0)↔cpR c:=by
  constructor
  · intro h
    have h2:=h.2.2.1 rfl
    refine⟨h2,?_⟩
    rcases h.1 with ⟨c,e,h⟩|⟨c,e,_⟩|⟨c,i,e,_⟩|⟨c,m,i,L,e,_⟩|⟨t,e,_⟩|e
    all_goals simp only[Prod.mk.injEq] at e
    · obtain⟨-,rfl,-⟩:=e
      omega
    all_goals exact absurd e.1 (by decide)
  · intro h
    exact⟨.inl ⟨c,rfl,Bb5 h⟩,fun e=>absurd (Prod.mk.inj e).1 (by decide),fun _=>h.1,fun e=>absurd (show (1:Int)=4 from e) (by decide)⟩
theorem BG5 {c m:Int} {i:ByteArray} {L:List Int}:goodW (4,c,m,i,L,e0)↔((64≤c∧c≤126∧(m=0∨(60≤m∧m≤63))∧inOk i)∧(l8 L).2=0∧(l8 L).1.size≤100):=by
  constructor
  · intro h
    refine⟨?_,h.2.2.2 rfl⟩
    rcases h.1 with ⟨c,e,h⟩|⟨c,e,h⟩|⟨c,i,e,h⟩|⟨c,m,i,L,e,h⟩|⟨t,e,_⟩|e
    all_goals simp only[Prod.mk.injEq] at e
    · exact absurd e.1 (by decide)
    · exact absurd e.1 (by decide)
    · exact absurd e.1 (by decide)
    · obtain⟨-,rfl,rfl,rfl,-⟩:=e
      exact h
    all_goals exact absurd e.1 (by decide)
  · intro h
    exact⟨.inr (.inr (.inr (.inl ⟨c,m,i,L,rfl,h.1⟩))),fun e=>absurd (Prod.mk.inj e).1 (by decide),fun e=>absurd (show (4:Int)=1 from e) (by decide),fun _=>h.2⟩
theorem Ai5 (i:ByteArray):inI i 2=1↔inOk i:=by
  unfold inI inOk
  rw[←List.all_eq_true]
  by_cases h:(nums i).all inB=true∧(i.size:Int)≤2
  · rw[if_pos h];exact⟨fun _=>⟨h.1,by omega⟩,fun _=>rfl⟩
  · rw[if_neg h];exact⟨fun e=>absurd e (by decide),fun e=>absurd ⟨e.1,by omega⟩ h⟩
theorem Ad1:∀(N:List Int),(∀x∈N,0≤x∧x<128)→encL N=N
  | [],_=>rfl
  | x::N,h=>by
    have hx:=h x List.mem_cons_self
    rw[AJ4,Ad1 N (fun y hy=>h y (List.mem_cons_of_mem _ hy)),AO6 (AC1 (by omega))]
    unfold runeL
    rw[if_pos hx.2]
    rfl
attribute [local irreducible] SW SL SQ AtQ SV SC BB LD PK Yields SO SOT SOA SY SP SPT SPA
/-- A text of low bytes. -/
theorem BW8 (G:Ctx) (H:List Ent) (s:ByteArray) (hlow:∀x∈nums s,0≤x∧x<128) (hz:s.size≤2000000):SC Tryz.prog G 118 [.string s] H (fun v H'=>∃a' c',v= .slice a' (nums s).length c'∧H'= .own 3 1 a' (nums s).length c' (ints (nums s))::H):=
  Bk4 G H (nums s) (fun x hx=>AC1 (by have:=hlow x hx;omega)) s (by rw[Ad1 _ hlow,Z6]) hz
theorem CD4 {i:ByteArray} (h:inI i 2=1):∀x∈nums i,0≤x∧x<128:=fun x hx=>by
  have:=AI4 (((Ai5 i).1 h).1 x hx)
  omega
theorem Bv6 {S:ByteArray} (h:∀x∈nums S,okA x=true):∀x∈nums S,0≤x∧x<128:=fun x hx=>by
  have:=AY0 (h x hx)
  omega
theorem B31 (G:Ctx) (H:List Ent) (hT:∀H,AP2 G H) (c m:Int) (i:ByteArray) (hi:i.size≤2000000) (L:List Int) (a:Option Addr) (cp:Nat) [h1:RdC G H a (ints L)] (hmn:L.length≤2000000):SC Tryz.prog G 66 [acV 4 c m i a L.length cp e0] H (WrR G H (4,c,m,i,L,e0)):=by
  have cP:=fun H=>BB3 G H 4 c m i a L.length cp e0
  rw[show plB 4 c m i ((L.length:Nat):Int) e0=true from by unfold plB;simp] at cP
  have cW:=fun H n l h=>AN3 G H n l h
  have cI:=fun H=>As1 G H i 2 (by omega)
  have cA:=fun (H:List Ent) [RdC G H a (ints L)]=>A15 G H hT L a L.length cp rfl hmn
  have hg:=BG5 (c:=c) (m:=m) (i:=i) (L:=L)
  rw[←Ai5] at hg
  have hcsi:Y9 (4,c,m,i,L,e0)=27::91::((if m≠0 then [m] else [])++(nums ((l8 L).1++i)++[c])):=rfl
  have hok:(l8 L).2=0→∀x∈nums (l8 L).1,0≤x∧x<128:=fun h=>by
    obtain⟨hw,w1,w2,w3⟩:=AU1 h
    rw[hw]
    exact Bv6 (AR6 L w1 w2 w3).1
  generalize (l8 L).1=S at *
  generalize (l8 L).2=E at *
  have Hg:=Lib.hid hg
  have Hcsi:=Lib.hid hcsi
  clear hg hcsi hmn hT
  by_cases hin:inI i 2=1∧E=0∧S.size≤100
  · obtain⟨hin,rfl,hS⟩:=hin
    have hsz:i.size≤2:=((Ai5 i).1 hin).2
    obtain⟨T,hTt⟩:∃T,S++i=T:=⟨_,rfl⟩
    have hTz:T.size≤102:=by rw[←hTt,AM0];omega
    have hlow:∀x∈nums T,0≤x∧x<128:=fun x hx=>by
      rw[←hTt,nums_append] at hx
      rcases List.mem_append.1 hx with hx|hx
      · exact hok rfl x hx
      · exact CD4 hin x hx
    have cR:=fun H=>BW8 G H T hlow (by omega)
    have hl:=nums_length T
    have hli:(ints (nums T)).length=T.size * 1:=by simp [ints,hl]
    have hone:(ints (nums T)).all (·.oneCell')=true:=by simp [ints,Value.oneCell']
    have hcat:S.size+i.size≤9223372036854775807:=by omega
    rw[decide_eq_true hin] at cI
    rw[hl] at cR
    have Hcsi2:=Hcsi.out
    rw[hTt] at Hcsi2
    clear Hcsi hlow hok
    have Hcsi:=Lib.hid Hcsi2
    clear Hcsi2
    by_cases hm0:m=0
    · subst hm0
      refine Y3 Tryz.func66 rfl rfl rfl rfl rfl ?_
      repeat' (first|(apply F3;first|(apply C8;refine A8 ?_)|(apply C9;refine D8 rfl rfl ?_)|(apply E5;refine F5 rfl rfl rfl ?_;first|(refine Ap5 hTt hcat ?_)|(refine F7 rfl ?_))|(apply F4;refine F8 rfl rfl ?_;first|refine G6 rfl ?_ |refine K5 rfl ?_)|(apply D6;refine D9 rfl rfl ?_)|(apply I6;refine I9 rfl rfl ?_;first|(apply Q9;refine Q8 rfl ?_)|(apply O1;refine O3 rfl ?_))|(apply G7;refine G8 (E8 rfl rfl) rfl ?_)|(apply Y0;refine Z8 (Z7 rfl rfl rfl) rfl ?_)|(apply Q6;refine U2 (K7 rfl rfl rfl) rfl ?_)|(apply H6;first|refine F9 rfl rfl rfl (cP _) rfl rfl ?_ |refine F9 rfl rfl rfl (cW _ _ _ _) rfl rfl ?_ |refine F9 rfl rfl rfl (cI _) rfl rfl ?_ |refine F9 rfl rfl rfl (cA _) rfl rfl ?_ |(refine c_call rfl rfl rfl (cR _) rfl rfl ?_;rintro _ _ ⟨_,_,rfl,rfl⟩))|(apply J5;first|(refine R6 rfl rfl rfl rfl hli hone (by omega) rfl rfl (fun _ _=>?_))|refine s_call (Q3 rfl rfl) rfl ?_ |refine R6 rfl rfl rfl rfl (by (rfl)) (by (rfl)) (by omega) rfl rfl (fun _ _=>?_))|(apply K9;refine O5 rfl rfl rfl rfl rfl rfl (fun _=>?_))|(apply V8;refine M7 rfl rfl rfl rfl rfl rfl rfl rfl rfl rfl (fun _=>?_))|(apply I1;refine J9 rfl rfl rfl rfl ?_;first|(apply I7)|(apply I5)|(apply X9)|(apply E9<;>intro hq<;>(try (exfalso;omega)))))|(apply D7)|(apply G9)|(apply H7)|(apply F6)|(apply A7)|(refine G5 rfl ?_;first|(apply I7)|(apply I5)|(apply E9<;>intro hq<;>(try (exfalso;omega))))|(apply D5)|(apply J4)|(apply J2)|(apply U1))
      all_goals first
        | (refine M9 (.own 3 1 _ (2+T.size+1) _ ([.int .i64 27,.int .i64 91]++ints (nums T)++[.int .i64 c])::H) (by first|exact .inl rfl|exact .inr rfl) rfl I8 (WrR.yes2 (27::91::(nums T++[c])) (Hg.out.2 ⟨⟨by omega,by omega,.inl rfl,hin⟩,rfl,hS⟩) (by rw[Hcsi.out];rfl) (by simp [ints]) (by simp only[List.length_cons,List.length_append,List.length_nil,hl];omega) (by omega)))
        | (refine M9 H (by first|exact .inl rfl|exact .inr rfl) rfl I8 (WrR.no fun h=>?_)
           have h2:=Hg.out.1 h
           omega)
    · by_cases hm1:60≤m∧m≤63
      · have hcs:Y9 (4,c,m,i,L,e0)=27::91::m::(nums T++[c]):=by
          rw[Hcsi.out,if_pos hm0]
          rfl
        refine Y3 Tryz.func66 rfl rfl rfl rfl rfl ?_
        repeat' (first|(apply F3;first|(apply C8;refine A8 ?_)|(apply C9;refine D8 rfl rfl ?_)|(apply E5;refine F5 rfl rfl rfl ?_;first|(refine Ap5 hTt hcat ?_)|(refine F7 rfl ?_))|(apply F4;refine F8 rfl rfl ?_;first|refine G6 rfl ?_ |refine K5 rfl ?_)|(apply D6;refine D9 rfl rfl ?_)|(apply I6;refine I9 rfl rfl ?_;first|(apply Q9;refine Q8 rfl ?_)|(apply O1;refine O3 rfl ?_))|(apply G7;refine G8 (E8 rfl rfl) rfl ?_)|(apply Y0;refine Z8 (Z7 rfl rfl rfl) rfl ?_)|(apply Q6;refine U2 (K7 rfl rfl rfl) rfl ?_)|(apply H6;first|refine F9 rfl rfl rfl (cP _) rfl rfl ?_ |refine F9 rfl rfl rfl (cW _ _ _ _) rfl rfl ?_ |refine F9 rfl rfl rfl (cI _) rfl rfl ?_ |refine F9 rfl rfl rfl (cA _) rfl rfl ?_ |(refine c_call rfl rfl rfl (cR _) rfl rfl ?_;rintro _ _ ⟨_,_,rfl,rfl⟩))|(apply J5;first|(refine R6 rfl rfl rfl rfl hli hone (by omega) rfl rfl (fun _ _=>?_))|refine s_call (Q3 rfl rfl) rfl ?_ |refine R6 rfl rfl rfl rfl (by (rfl)) (by (rfl)) (by omega) rfl rfl (fun _ _=>?_))|(apply K9;refine O5 rfl rfl rfl rfl rfl rfl (fun _=>?_))|(apply V8;refine M7 rfl rfl rfl rfl rfl rfl rfl rfl rfl rfl (fun _=>?_))|(apply I1;refine J9 rfl rfl rfl rfl ?_;first|(apply I7)|(apply I5)|(apply E9<;>intro hq<;>(try (exfalso;omega)))|(apply O8<;>intro hq<;>(try (exfalso;omega)))))|(apply D7)|(apply G9)|(apply H7)|(apply F6)|(apply A7)|(refine G5 rfl ?_;first|(apply I7)|(apply I5)|(apply E9<;>intro hq<;>(try (exfalso;omega)))|(apply X6<;>intro hq<;>(try (exfalso;omega))))|(apply D5)|(apply J4)|(apply J2)|(apply U1))
        all_goals first
          | (exfalso;omega)
          | (refine M9 (.own 3 1 _ (2+1+T.size+1) _ ([.int .i64 27,.int .i64 91]++[.int .i64 m]++ints (nums T)++[.int .i64 c])::H) (by first|exact .inl rfl|exact .inr rfl) rfl I8 (WrR.yes2 (27::91::m::(nums T++[c])) (Hg.out.2 ⟨⟨by omega,by omega,.inr hm1,hin⟩,rfl,hS⟩) hcs.symm (by simp [ints]) (by simp only[List.length_cons,List.length_append,List.length_nil,hl];omega) (by omega)))
          | (refine M9 H (by first|exact .inl rfl|exact .inr rfl) rfl I8 (WrR.no fun h=>?_)
             have h2:=Hg.out.1 h
             omega)
      · have cM:=fun H=>cW H m 60 63
        rw[decide_eq_false hm1] at cM
        refine Y3 Tryz.func66 rfl rfl rfl rfl rfl ?_
        repeat' (first|(apply F3;first|(apply C8;refine A8 ?_)|(apply C9;refine D8 rfl rfl ?_)|(apply E5;refine F5 rfl rfl rfl ?_;refine F7 rfl ?_)|(apply F4;refine F8 rfl rfl ?_;first|refine G6 rfl ?_ |refine K5 rfl ?_)|(apply D6;refine D9 rfl rfl ?_)|(apply I6;refine I9 rfl rfl ?_;apply O1;refine O3 rfl ?_)|(apply G7;refine G8 (E8 rfl rfl) rfl ?_)|(apply Y0;refine Z8 (Z7 rfl rfl rfl) rfl ?_)|(apply Q6;refine U2 (K7 rfl rfl rfl) rfl ?_)|(apply H6;first|refine F9 rfl rfl rfl (cP _) rfl rfl ?_ |refine F9 rfl rfl rfl (cM _) rfl rfl ?_ |refine F9 rfl rfl rfl (cA _) rfl rfl ?_)|(apply K9;refine O5 rfl rfl rfl rfl rfl rfl (fun _=>?_))|(apply I1;refine J9 rfl rfl rfl rfl ?_;first|(apply I7)|(apply I5)|(apply O8<;>intro hq<;>(try (exfalso;omega)))))|(apply D7)|(apply G9)|(apply H7)|(apply F6)|(apply A7)|(refine G5 rfl ?_;first|(apply I7)|(apply I5))|(apply D5)|(apply J2))
        all_goals first
          | (exfalso;omega)
          | (refine M9 H (by first|exact .inl rfl|exact .inr rfl) rfl I8 (WrR.no fun h=>?_)
             have h2:=Hg.out.1 h
             omega)
  · refine Y3 Tryz.func66 rfl rfl rfl rfl rfl ?_
    repeat' (first|(apply F3;first|(apply C8;refine A8 ?_)|(apply C9;refine D8 rfl rfl ?_)|(apply E5;refine F5 rfl rfl rfl ?_;refine F7 rfl ?_)|(apply F4;refine F8 rfl rfl ?_;first|refine G6 rfl ?_ |refine K5 rfl ?_)|(apply D6;refine D9 rfl rfl ?_)|(apply I6;refine I9 rfl rfl ?_;first|(apply Q9;refine Q8 rfl ?_)|(apply O1;refine O3 rfl ?_))|(apply G7;refine G8 (E8 rfl rfl) rfl ?_)|(apply Y0;refine Z8 (Z7 rfl rfl rfl) rfl ?_)|(apply Q6;refine U2 (K7 rfl rfl rfl) rfl ?_)|(apply H6;first|refine F9 rfl rfl rfl (cP _) rfl rfl ?_ |refine F9 rfl rfl rfl (cW _ _ _ _) rfl rfl ?_ |refine F9 rfl rfl rfl (cI _) rfl rfl ?_ |refine F9 rfl rfl rfl (cA _) rfl rfl ?_)|(apply J5;refine s_call (Q3 rfl rfl) rfl ?_)|(apply K9;refine O5 rfl rfl rfl rfl rfl rfl (fun _=>?_))|(apply I1;refine J9 rfl rfl rfl rfl ?_;first|(apply I7)|(apply I5)|(apply X9)|(apply E9<;>intro hq<;>(try (exfalso;omega)))|(apply O8<;>intro hq<;>(try (exfalso;omega)))))|(apply D7)|(apply G9)|(apply H7)|(apply F6)|(apply A7)|(refine G5 rfl ?_;first|(apply I7)|(apply I5)|(apply E9<;>intro hq<;>(try (exfalso;omega))))|(apply D5)|(apply J2))
    all_goals first
      | (exfalso;exact hin ⟨by assumption,by assumption,by omega⟩)
      | exact M9 H (by (exact .inr rfl)) rfl I8 (WrR.no fun h=>hin ⟨(Hg.out.1 h).1.2.2.2,(Hg.out.1 h).2⟩)
end
section
set_option maxHeartbeats 1000000
attribute [local irreducible] SW SL SQ AtQ SV SC BB LD PK Yields
def rst (fl fo ba tl tf tb:Int):Prop:=¬iclr fl tl=0∨(¬fo=0∧tf=0)∨(¬ba=0∧tb=0)
instance (fl fo ba tl tf tb:Int):Decidable (rst fl fo ba tl tf tb):=by unfold rst;infer_instance
def flagT (a t:Int) (n:Nat):Bool:=decide (¬iclr (iand (AC5 n) t) a=0)
def AB0 (a t:Int) (k:Nat):List Int:=((List.range' 1 (k-1)).filter (flagT a t)).map fun n:Nat=>(n:Int)
theorem An9 (a t:Int):AB0 a t 1=[]:=rfl
theorem A94 (a t:Int) (k:Nat) (hk:1≤k):AB0 a t (k+1)=AB0 a t k++if flagT a t k=true then [(k:Int)] else []:=by
  unfold AB0
  obtain⟨m,rfl⟩:∃m,k=m+1:=⟨k-1,by omega⟩
  rw[show m+1+1-1=m+1 from by omega,show m+1-1=m from by omega,List.range'_1_concat,List.filter_append,List.map_append,Nat.add_comm 1 m]
  cases h:flagT a t (m+1)<;>simp [h]
theorem AZ3 (a t:Int) (k:Nat):(AB0 a t k).length≤k-1:=by
  unfold AB0
  rw[List.length_map]
  exact Nat.le_trans (List.length_filter_le _ _) (by simp)
theorem AK4 (c b:Int):(q8 c b).length≤5:=by
  unfold q8;split<;>(try split)<;>(try split)<;>simp
def chA (fl fo ba tl tf tb:Int):Int×Int×Int×List Int:=if rst fl fo ba tl tf tb then (0,0,0,[0]) else (fl,fo,ba,[])
def chL (fl fo ba tl tf tb:Int):List Int:=
  let x:=chA fl fo ba tl tf tb
  x.2.2.2++AB0 x.1 tl 10++(if ¬tf=x.2.1 then q8 tf 30 else [])++(if ¬tb=x.2.2.1 then q8 tb 40 else [])
theorem BM5 (G:Ctx) (H:List Ent) (fl fo ba tl tf tb:Int) (h:penB fl fo ba=true) (h':penB tl tf tb=true):SC Tryz.prog G 67 [penV fl fo ba,penV tl tf tb] H
    fun v H'=>∃a c,v= .tuple #[.slice a (chL fl fo ba tl tf tb).length c,.int .i64 0]∧H'= .own 3 1 a (chL fl fo ba tl tf tb).length c (ints (chL fl fo ba tl tf tb))::H:=by
  have h1:=AC3 G
  have hF:∀H k,k<10→SV Tryz.prog G 121 [.int .i64 ((k:Nat):Int)] H (.int .i64 (AC5 k)):=fun H k hk=>Ao0 G H k hk
  have hlen:=AZ3
  refine J3 Tryz.func67 rfl rfl rfl rfl rfl ?_
  repeat' (first|(apply F3;first|(apply C8;refine A8 ?_)|(apply C9;refine D8 rfl rfl ?_)|(apply F4;refine F8 rfl rfl ?_;refine K5 rfl ?_)|(apply D6;refine D9 rfl rfl ?_)|(apply P5;refine R7 (O6 rfl rfl rfl) rfl ?_)|(apply K9;refine O5 rfl rfl rfl rfl rfl rfl (fun _=>?_)))|(apply D7)|(apply F6)|(apply A7)|(apply D5))
  rename_i b2 b3
  refine AF8 3 (AF9 ?_)
  have hc:=fun H=>h1 H fl fo ba
  have hc2:=fun H=>h1 H tl tf tb
  simp only[h,h',if_true] at hc hc2
  rw[AM1] at h h'
  have e1:0≤fl∧fl≤255∧0≤tl∧tl≤255:=by omega
  have e2:0≤tf∧tf<33554432∧0≤tb∧tb<33554432:=by omega
  clear h1 h h'
  repeat' (first|(apply F3;first|(apply C8;refine A8 ?_)|(apply C9;refine D8 rfl rfl ?_)|(apply E5;refine F5 rfl rfl rfl ?_;first|(apply M0;refine L9 ⟨by omega,by omega⟩ ?_)|refine F7 rfl ?_)|(apply F4;refine F8 rfl rfl ?_;refine K5 rfl ?_)|(apply D6;refine D9 rfl rfl ?_)|(apply U8;refine W9 (Ah0 rfl rfl rfl (by omega) (by omega) rfl) rfl ?_)|(apply H6;first|refine F9 rfl rfl rfl (hc _) rfl rfl ?_ |refine F9 rfl rfl rfl (hc2 _) rfl rfl ?_)|(apply H9;refine M6 rfl rfl rfl rfl rfl rfl rfl rfl ?_)|(apply L6;refine O0 rfl rfl rfl rfl (fun _=>?_)))|(apply D7)|(apply AN0)|(apply G9)|(apply N8)|(apply F6)|((fail_if_success (refine K3 (id:=9) ?_));apply A7)|(refine G5 rfl ?_;first|(apply I7)|(apply I5))|(apply D5)|(apply J7)|(apply J2)|(apply J8))
  clear hc hc2
  refine Bw0 (α:=Int×Int×Int×List Int×Option Addr×Nat) (fun g=>[(2,.pointer (some ⟨b2,0,none⟩)),(3,.pointer (some ⟨b3,0,none⟩)),(9,.slice g.2.2.2.2.1 g.2.2.2.1.length g.2.2.2.2.2)])
    (fun g=> .own 3 1 g.2.2.2.2.1 g.2.2.2.1.length g.2.2.2.2.2 (ints g.2.2.2.1):: .blk b2 31 [.int .i64 g.1,.int .i64 g.2.1,.int .i64 g.2.2.1]:: .blk b3 31 [.int .i64 tl,.int .i64 tf,.int .i64 tb]::H)
    (fun g=>(g.1,g.2.1,g.2.2.1,g.2.2.2.1)=chA fl fo ba tl tf tb) ?_ ?_
  · repeat' (first|(apply F3;first|(apply C8;refine A8 ?_)|(apply C9;refine D8 rfl rfl ?_)|(apply E5;refine F5 rfl rfl rfl ?_;first|(apply AU0;refine AT7 (by (omega)) (by (omega)) (by (omega)) (by (omega)) ?_)|refine F7 rfl ?_)|(apply F4;refine F8 rfl rfl ?_;refine G6 rfl ?_)|(apply D6;refine D9 rfl rfl ?_)|(apply I6;refine I9 rfl rfl ?_;first|(apply Q9;refine Q8 rfl ?_)|(apply O1;refine O3 rfl ?_))|(apply G7;refine G8 (E8 rfl rfl) rfl ?_)|(apply P5;refine R7 (O6 rfl rfl rfl) rfl ?_)|(apply J5;refine A76 rfl rfl rfl rfl (by (rfl)) (by (rfl)) (by omega) rfl rfl (fun _ _=>?_))|(apply H9;refine M6 rfl rfl rfl rfl rfl rfl rfl rfl ?_)|(apply V8;refine M7 rfl rfl rfl rfl rfl rfl rfl rfl rfl rfl (fun _=>?_))|(apply I1;first|(refine J9 rfl rfl rfl rfl ?_;first|(apply I7)|(apply I5)|(apply X9)|(apply O8<;>intro hq<;>(try (exfalso;omega)))|(apply X6<;>intro hq<;>(try (exfalso;omega)))|(apply AP0<;>intro hq<;>(try (exfalso;omega))))|refine o5 rfl rfl rfl rfl rfl rfl ?_))|(apply G9)|(apply A7)|(refine G5 rfl ?_;first|(apply I7)|(apply I5)|(apply E9<;>intro hq<;>(try (exfalso;omega))))|(apply D5))
    all_goals first
      | (refine J6 (0,0,0,[0],_,_) ?_ (by repeat (first|exact Le.nil _|refine Le.cons (by first|rfl|(exact congrArg some (congrArg (Value.int _) (by omega)))) ?_)) I8;unfold chA;rw[if_pos (by unfold rst;omega)])
      | (refine J6 (fl,fo,ba,[],none,0) ?_ (by repeat (first|exact Le.nil _|refine Le.cons (by (rfl)) ?_)) (fun _ hw=>(hw.nilrow _ _).subs (by repeat (first|refine Subs.cons (by repeat constructor) ?_ |exact Subs.sub N7)));unfold chA;rw[if_neg (by unfold rst;omega)])
  · rintro ⟨gl,gf,gb,L,a,c⟩ hg
    dsimp only at hg ⊢
    have hL:L.length≤1:=by
      have e:L=(chA fl fo ba tl tf tb).2.2.2:=by rw[←hg]
      rw[e];unfold chA;split<;>simp
    have hgl:0≤gl∧gl≤255:=by
      have e:gl=(chA fl fo ba tl tf tb).1:=by rw[←hg]
      rw[e];unfold chA;split<;>simp;omega
    have hR:chL fl fo ba tl tf tb=L++AB0 gl tl 10++(if ¬tf=gf then q8 tf 30 else [])++(if ¬tb=gb then q8 tb 40 else []):=by unfold chL;rw[←hg]
    rw[hR]
    clear hg hR
    repeat' (first|(apply F3;first|(apply C8;refine A8 ?_)|(apply D6;refine D9 rfl rfl ?_))|(apply D7)|(apply F6)|(apply A7)|(apply D5))
    refine R9 (α:=Nat×Option Addr×Nat) (fun g=>[(2,.pointer (some ⟨b2,0,none⟩)),(3,.pointer (some ⟨b3,0,none⟩)),(10,.int .i64 g.1),(9,.slice g.2.1 (L++AB0 gl tl g.1).length g.2.2)])
      (fun g=> .own 3 1 g.2.1 (L++AB0 gl tl g.1).length g.2.2 (ints (L++AB0 gl tl g.1)):: .blk b2 31 [.int .i64 gl,.int .i64 gf,.int .i64 gb]:: .blk b3 31 [.int .i64 tl,.int .i64 tf,.int .i64 tb]::H)
      (fun g=>1≤g.1∧g.1≤10) (fun g=>10-g.1) (1,a,c) ⟨Nat.le_refl 1,Nat.le_of_ble_eq_true rfl⟩ (by rw[An9,List.append_nil];exact(by repeat (first|exact Le.nil _|refine Le.cons (by (rfl)) ?_))) (by rw[An9,List.append_nil];exact fun _ hw=>hw) ?_
    rintro ⟨k,a,c⟩ ⟨hk1,hk2⟩
    have hk:=hlen gl tl k
    have hs:=A94 gl tl k hk1
    dsimp only at hk1 hk2 ⊢
    have hB:(L++AB0 gl tl k).length≤20:=by rw[List.length_append];omega
    have hfl:k<10→SV Tryz.prog G 121 [.int .i64 (k:Int)] (.own 3 1 a (L++AB0 gl tl k).length c (ints (L++AB0 gl tl k)):: .blk b2 31 [.int .i64 gl,.int .i64 gf,.int .i64 gb]:: .blk b3 31 [.int .i64 tl,.int .i64 tf,.int .i64 tb]::H) (.int .i64 (AC5 k)):=fun hk=>Ao0 _ _ k hk
    have hfb:(0:Int)≤AC5 k∧(AC5 k:Int)<1000:=by
      refine⟨by omega,?_⟩
      unfold AC5
      rcases Nat.lt_or_ge k 10 with h|h
      · match k,h with
        | 0,_|1,_|2,_|3,_|4,_|5,_|6,_|7,_|8,_|9,_=>decide
      · rw[List.getD_eq_getElem?_getD,List.getElem?_eq_none (by simpa using h)];decide
    generalize hFF:AB0 gl tl k=F at *
    have HFF:=Lib.hid hFF
    have hp1:=AK4 tf 30
    have hp2:=AK4 tb 40
    clear hF hlen hFF
    repeat' (first|(apply F3;first|(apply C8;refine A8 ?_)|(apply C9;refine D8 rfl rfl ?_)|(apply E5;refine F5 rfl rfl rfl ?_;first|(apply M0;refine L9 ⟨by omega,by omega⟩ ?_)|refine F7 rfl ?_)|(apply F4;refine F8 rfl rfl ?_;refine G6 rfl ?_)|(apply D6;refine D9 rfl rfl ?_)|(apply G7;refine G8 (E8 rfl rfl) rfl ?_)|(apply H6;refine c_call rfl rfl rfl (Bl8 _ _ _ _ (by omega) (by omega) (by decide) (by decide)) rfl rfl ?_;rintro _ _ ⟨_,rfl,rfl⟩)|(apply J5;refine R6 rfl rfl rfl rfl (by (first|rfl|simp [ints])) (by (first|rfl|exact Bc2 _)) (by omega) rfl rfl (fun _ _=>?_))|(apply V8;refine M7 rfl rfl rfl rfl rfl rfl rfl rfl rfl rfl (fun _=>?_)))|(apply AN1;first|(apply AF4;refine AF2 ?_)|(apply AE3;refine AG6 rfl rfl ?_)|(apply AG3;refine AK5 rfl rfl rfl ?_;first|(apply AW4;refine A10 (by (omega)) (by (omega)) (by (omega)) (by (omega)) ?_)|(apply AU0;refine AT7 (by (apply B16)) (by (apply B41<;>omega)) (by (omega)) (by (omega)) ?_)|refine F7 rfl ?_)|(apply AE1;refine AE9 rfl rfl ?_;refine G6 rfl ?_)|(apply AJ6;refine AI8 (E8 rfl rfl) rfl ?_)|(apply An1;refine AM3 rfl rfl rfl (hfl (by omega)) rfl rfl ?_))|(apply D7)|(apply G9)|(apply H7)|(apply N8)|(apply F6)|(apply A7)|(refine G5 rfl ?_;first|(apply E9<;>intro hq<;>(try (exfalso;omega)))|(apply X6<;>intro hq<;>(try (exfalso;omega))))|(apply D5)|(apply J7)|(apply J2)|(apply J8)|refine AC9 (by kernel_rfl) ?_)
    · rename_i b' a' c'
      have ht:flagT gl tl k=true:=decide_eq_true hq
      have e1:(L++(F++[(k:Int)])).length=(L++F).length+1:=by simp;omega
      have e2:ints (L++(F++[(k:Int)]))=ints (L++F)++[.int .i64 k]:=by simp [ints]
      refine J6 (k+1,a',c') ⟨⟨by omega,by omega⟩,by omega⟩ ?_ ?_
      · dsimp only;rw[hs,if_pos ht,e1];exact(by repeat (first|exact Le.nil _|refine Le.cons (by (rfl)) ?_))
      · dsimp only;rw[hs,if_pos ht,e1,e2];exact I8
    · have ht:¬flagT gl tl k=true:=by rw[flagT,decide_eq_true_eq];exact fun h=>h hq
      refine J6 (k+1,a,c) ⟨⟨by omega,by omega⟩,by omega⟩ ?_ ?_
      · dsimp only;rw[hs,if_neg ht,List.append_nil];exact(by repeat (first|exact Le.nil _|refine Le.cons (by (rfl)) ?_))
      · dsimp only;rw[hs,if_neg ht,List.append_nil];exact I8
    all_goals
      have e10:k=10:=by omega
      subst e10
      rw[HFF.out]
      refine AG7 (_::H) (.inr rfl) rfl (List.Sublist.cons_cons _ N7) ?_
      simp only[*,if_true,if_false,not_false_eq_true,not_true_eq_false,List.append_nil,List.length_append,Bc9]
      exact⟨_,_,rfl,rfl⟩
end
section
set_option maxHeartbeats 2000000
attribute [local irreducible] SW SL SQ AtQ SV SC BB LD PK Yields SO SOT SOA SY SP SPT SPA
/-- A drawer, what it has drawn, its pen. -/
abbrev drwC (a:Option Addr) (n c:Nat) (f r b:Int):List Value:=[.slice a n c,.int .i64 f,.int .i64 r,.int .i64 b]
def DrP (G:Ctx) (K:List Ent) (db:Nat) (out:List Int) (f r b:Int) (v:Value) (H':List Ent):Prop:=
  ∃(a:Option Addr) (c:Nat) (E:List Ent),v=resV []∧H'= .blk db 125 (drwC a out.length c f r b):: .own 3 1 a out.length c (ints out)::(E++K)
theorem BZ1 (G:Ctx) (H:List Ent) (hT:∀H,AP2 G H) (c:Int) (L:List Int) (a:Option Addr) (cp:Nat) [h1:RdC G H a (ints L)] (hg:goodW (4,c,0,e0,L,e0)) (hl:L.length≤2000000):SC Tryz.prog G 66 [acV 4 c 0 e0 a L.length cp e0] H fun v H'=>∃F a' c',v= .tuple #[.slice a' (Y9 (4,c,0,e0,L,e0)).length c',.int .i64 0]∧H'=F++H∧Sl ints G F (a',c',Y9 (4,c,0,e0,L,e0)):=by
  refine AI2 (B31 G H hT c 0 e0 (by decide) L a cp hl) fun v H'=>?_
  rintro ⟨F,l,a',c',e,rfl,-,hs,rfl,⟨-,rfl,rfl⟩|⟨h,-,-⟩⟩
  · exact⟨F,a',c',rfl,rfl,hs⟩
  · exact absurd hg h
theorem Aq3 (G:Ctx) (K:List Ent) (hT:∀H,AP2 G H) (db:Nat) (out:List Int) (oa:Option Addr) (oc:Nat) (f r b:Int) (c:Int) (L:List Int) (a:Option Addr) (cp:Nat) [h1:RdC G K a (ints L)] (hg:goodW (4,c,0,e0,L,e0)) (hl:L.length≤2000000) (hz:out.length+(Y9 (4,c,0,e0,L,e0)).length≤10000000):
    SC Tryz.prog G 38 [.pointer (some ⟨db,0,none⟩),.int .i64 c,.slice a L.length cp] (.blk db 125 (drwC oa out.length oc f r b):: .own 3 1 oa out.length oc (ints out)::K) (DrP G K db (out++Y9 (4,c,0,e0,L,e0)) f r b):=by
  have cW:=fun (H:List Ent) [RdC G H a (ints L)]=>BZ1 G H hT c L a cp hg hl
  generalize hR:Y9 (4,c,0,e0,L,e0)=R at *
  have hli:(ints R).length=R.length * 1:=by simp [ints]
  have hone:(ints R).all (·.oneCell')=true:=by simp [ints,Value.oneCell']
  have happ:ints (out++R)=ints out++ints R:=by simp [ints]
  unfold DrP
  rw[happ,List.length_append]
  clear hg hl hR hT happ
  generalize L.length=n at *
  refine AH0 Tryz.func38 rfl rfl rfl rfl rfl ?_
  repeat' (first|(apply F3;first|(apply C8;refine A8 ?_)|(apply C9;refine D8 rfl rfl ?_)|(apply D6;refine D9 rfl rfl ?_)|(apply Q6;refine U2 (K7 rfl rfl rfl) rfl ?_)|(apply P5;refine R7 (O6 rfl rfl rfl) rfl ?_)|(apply H6;refine c_call rfl rfl rfl (cW _) rfl rfl ?_;rintro _ _ ⟨F,a',c',rfl,rfl,hs⟩))|(apply D7)|((fail_if_success (refine K3 (id:=1) ?_));apply A7)|(apply D5))
  haveI hi:RdC G (F++(.blk db 125 (drwC oa out.length oc f r b):: .own 3 1 oa out.length oc (ints out)::K)) a' (ints R):=⟨fun w hw=>hs.rd.here w (hw.sub (List.sublist_append_left F _))⟩
  repeat' (first|(apply F3;first|(apply C8;refine A8 ?_)|(apply C9;refine D8 rfl rfl ?_)|(apply F4;refine F8 rfl rfl ?_;refine G6 rfl ?_)|(apply G7;refine G8 (E8 rfl rfl) rfl ?_)|(apply K8;refine M8 (H8 rfl rfl) rfl ?_)|(apply J5;refine R6 rfl rfl rfl rfl hli hone (by omega) rfl rfl (fun _ _=>?_))|(apply H9;refine U3 rfl rfl rfl rfl rfl rfl rfl ?_))|(apply A7))
  exact M9 _ (by (exact .inl rfl)) rfl (fun _ hw=>hw) ⟨_,_,F,rfl,rfl⟩
/-- What takes a pen to another one. -/
def toD (f r b tl tf tb:Int):List Int:=if chL f r b tl tf tb=[] then [] else Y9 (4,109,0,e0,chL f r b tl tf tb,e0)
theorem BY2 (G:Ctx) (K:List Ent) (hT:∀H,AP2 G H) (db:Nat) (out:List Int) (oa:Option Addr) (oc:Nat) (f r b:Int) (tl tf tb:Int) (h:penB f r b=true) (h':penB tl tf tb=true) (hg:chL f r b tl tf tb≠[]→goodW (4,109,0,e0,chL f r b tl tf tb,e0)) (hz:out.length+(Y9 (4,109,0,e0,chL f r b tl tf tb,e0)).length≤10000000):
    SC Tryz.prog G 39 [.pointer (some ⟨db,0,none⟩),penV tl tf tb] (.blk db 125 (drwC oa out.length oc f r b):: .own 3 1 oa out.length oc (ints out)::K) (DrP G K db (out++toD f r b tl tf tb) tl tf tb):=by
  have cC:=fun H=>BM5 G H f r b tl tf tb h h'
  have hl:(chL f r b tl tf tb).length≤30:=by
    have h1:=AZ3 (chA f r b tl tf tb).1 tl 10
    have h2:=AK4 tf 30
    have h3:=AK4 tb 40
    have h4:(chA f r b tl tf tb).2.2.2.length≤1:=by unfold chA;split<;>simp
    unfold chL
    dsimp only
    rw[List.length_append,List.length_append,List.length_append]
    split<;>split<;>simp<;>omega
  unfold toD
  by_cases h0:chL f r b tl tf tb=[]
  · rw[if_pos h0,List.append_nil]
    rw[h0] at cC
    clear hg hz hl h h'
    refine J3 Tryz.func39 rfl rfl rfl rfl rfl ?_
    repeat' (first|(apply F3;first|(apply C8;refine A8 ?_)|(apply C9;refine D8 rfl rfl ?_)|(apply E5;refine F5 rfl rfl rfl ?_;refine F7 rfl ?_)|(apply F4;refine F8 rfl rfl ?_;refine K5 rfl ?_)|(apply G7;refine G8 (E8 rfl rfl) rfl ?_)|(apply K8;refine M8 (H8 rfl rfl) rfl ?_)|(apply H6;refine c_call rfl rfl rfl (cC _) rfl rfl ?_;rintro _ _ ⟨a,c,rfl,rfl⟩)|(apply J5;refine s_call (Q5 rfl rfl) rfl ?_)|(apply H9;refine AU3 rfl rfl rfl rfl rfl rfl rfl rfl rfl ?_)|(apply K9;refine O5 rfl rfl rfl rfl rfl rfl (fun _=>?_)))|(apply U4;refine R5 (k:=0) I8 ?_)|(apply V6;first|(refine O9 rfl ?_)|(refine P8 rfl rfl rfl rfl (by kernel_rfl) (by decide+kernel) (by decide+kernel) ?_;first|(apply U5;refine I4 (V4 rfl rfl) ?_)|(apply U9;refine U6 rfl ?_;first|refine K5 rfl ?_ |refine L8 rfl rfl ?_)|(apply Z0;refine I4 (X7 rfl rfl) ?_)|(apply Q0;refine I4 (E8 rfl rfl) ?_)|(apply AO9;refine I4 (K7 rfl rfl rfl) ?_)|(apply Y7;refine I4 (H8 rfl rfl) ?_))|(refine P9 rfl ?_)|(refine R4 (by decide+kernel) ?_)|(refine S9 (by kernel_rfl) ?_))|(apply X4;first|(refine T9 rfl)|(refine U7 (by decide+kernel) ?_)|(refine U0 rfl ?_ ?_))|(apply D7)|(apply G9)|(apply A7)|(refine G5 rfl ?_;apply I5)|(apply D5)|(refine K3 (id:=1) ?_;refine V3 _ (fun _ hw=>hw) ?_))
    all_goals (skip)
    exact M9 (.blk db 125 (drwC oa out.length oc tl tf tb):: .own 3 1 oa out.length oc (ints out)::K) (by (exact .inl rfl)) rfl I8 ⟨oa,oc,[],rfl,rfl⟩
  · rw[if_neg h0]
    have hg:=hg h0
    generalize chL f r b tl tf tb=L at *
    have hn0:0<L.length:=List.length_pos_iff.2 h0
    have cA:=fun (K:List Ent) (oa:Option Addr) (oc:Nat) (a:Option Addr) (cp:Nat) (h1:RdC G K a (ints L))=>Aq3 G K hT db out oa oc f r b 109 L a cp hg (by omega) hz
    unfold DrP at cA ⊢
    generalize out++Y9 (4,109,0,e0,L,e0)=out2 at *
    generalize hln:L.length=n at *
    clear hg hz h0 h h'
    refine J3 Tryz.func39 rfl rfl rfl rfl rfl ?_
    repeat' (first|(apply F3;first|(apply C8;refine A8 ?_)|(apply C9;refine D8 rfl rfl ?_)|(apply E5;refine F5 rfl rfl rfl ?_;refine F7 rfl ?_)|(apply F4;refine F8 rfl rfl ?_;refine K5 rfl ?_)|(apply G7;refine G8 (E8 rfl rfl) rfl ?_)|(apply K8;refine M8 (H8 rfl rfl) rfl ?_)|(apply H6;first|(refine c_call rfl rfl rfl (cC _) rfl rfl ?_;rintro _ _ ⟨a,c,rfl,rfl⟩)|(refine c_call rfl rfl rfl (AN8 (tb:=db) (a1:=oa) (cA _ _ _ _ _ inferInstance)) rfl rfl ?_;rintro _ _ ⟨a2,c2,E,rfl,rfl⟩))|(apply J5;refine s_call (Q5 rfl rfl) rfl ?_)|(apply H9;refine AU3 rfl rfl rfl rfl rfl rfl rfl rfl rfl ?_)|(apply K9;refine O5 rfl rfl rfl rfl rfl rfl (fun _=>?_)))|(apply U4;refine R5 (k:=0) I8 ?_)|(apply V6;first|(refine O9 rfl ?_)|(refine P8 rfl rfl rfl rfl (by kernel_rfl) (by decide+kernel) (by decide+kernel) ?_;first|(apply U5;refine I4 (V4 rfl rfl) ?_)|(apply U9;refine U6 rfl ?_;first|refine K5 rfl ?_ |refine L8 rfl rfl ?_)|(apply Z0;refine I4 (X7 rfl rfl) ?_)|(apply Q0;refine I4 (E8 rfl rfl) ?_)|(apply AO9;refine I4 (K7 rfl rfl rfl) ?_)|(apply Y7;refine I4 (H8 rfl rfl) ?_))|(refine P9 rfl ?_)|(refine R4 (by decide+kernel) ?_)|(refine S9 (by kernel_rfl) ?_))|(apply X4;first|(refine T9 rfl)|(refine U7 (by decide+kernel) ?_)|(refine U0 rfl ?_ ?_))|(apply D7)|(apply A7)|(refine G5 rfl ?_;apply E9<;>intro hq<;>(try (exfalso;omega)))|(apply D5)|(refine K3 (id:=1) ?_;refine V3 _ (fun _ hw=>hw) ?_))
    all_goals (skip)
    exact M9 (.blk db 125 (drwC a2 out2.length c2 tl tf tb):: .own 3 1 a2 out2.length c2 (ints out2)::(E++K)) (by (exact .inl rfl)) rfl (fun _ hw=>hw.sub (.cons_cons _ (.cons_cons _ ((List.Sublist.refl E).append (.cons _ (.cons _ (.refl K))))))) ⟨a2,c2,E,rfl,rfl⟩
end
end Go.Proofs.YtmmnimagbnlcmaaGreatDoor
