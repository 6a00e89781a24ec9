/- fartop.TopDrawn returns true for every input, and each argument reads as it read. -/
import Derived.Test.YtmmnimagbnlcmaaGreatDoorTd18
import Derived.Test.YtmmnimagbnlcmaaGreatDoorRows
import Derived.WalkKit
import Derived.WalkSpells
import Derived.WalkLawsBesides
import Derived.Handy
import Derived.Lib.Hide
import Derived.Laws.BitsAllLaws
import Derived.Deep.MidRow
import Derived.Deep.WholeRow
import Derived.ProofKit
import Derived.OpenShut
import Derived.JoinedCond
import Derived.SliceStrings
import Derived.BigQuiet
import Derived.Laws.CopyOwn
import Derived.Deep.QuietTactic
import Derived.Laws.AppendOwnNone
import Derived.Laws.MakeOwn
import Derived.Laws.IdiomStrings
import Derived.OrdersHeld
import Derived.Lib.SliceRun
import Derived.ChangeKeysEq
import Derived.Laws.CopyRow
import Derived.Test.YtmmnimagbnlcmaaGreatDoorCards
import Derived.Test.YtmmnimagbnlcmaaGreatDoorTie
import Derived.Deep.DeepHandedRow
import Derived.Shelf.Vars
import Derived.Shelf.Strings.Builder1
import Derived.Shelf.Strings.Builder2
import Derived.Shelf.Strings.OnBuilder
import Derived.Shelf.Strings.Trim
import Derived.Shelf.Small.Utf8
import Derived.Shelf.Small.Strs
import Derived.Shelf.Strings.BuilderF
import Derived.Shelf.Strconv.Itoa0
import Derived.Shelf.Strconv.Itoa1
import Derived.Shelf.LaysM
import Derived.Shelf.Strconv.Itoa2
import Derived.Shelf.Strconv.Itoa3
import Derived.Shelf.Strings.Search1
import Derived.Shelf.Strings.Search2
import Derived.Shelf.Strings.Search3
import Derived.Shelf.Strings.Count
import Derived.Shelf.Strings.Shaped
import Derived.Shelf.Strings.LastIndex
import Derived.Shelf.Strings.Prefix
import Derived.Shelf.Strings.Split
import Derived.Shelf.Strings.Replace
import Derived.Shelf.Strings.SplitShaped
import Derived.Shelf.Strings.Runes
import Derived.Shelf.Strings.AsciiSet
import Derived.Shelf.Bits.Mul64
import Derived.Shelf.Strings.Repeat
import Derived.Shelf.Unicode.DecodeSlow
import Derived.Shelf.Unicode.DecodeAny
import Derived.Shelf.Unicode.ValidAny
import Derived.Test.YtmmnimagbnlcmaaGreatDoorProg
import Derived.Lib.LaidU8
import Derived.Lib.AppendStr
import Derived.ArgAppend
import Derived.Lib.Replace
import Derived.Lib.Join
import Derived.Lib.IndexLaws
import Derived.Lib.ItoaNum
import Derived.Lib.IndexMore
import Derived.Lib.SplitLaws
import Derived.Lib.AppendIntMem
import Derived.StillTailTactics
import Derived.RegionTactic
import Derived.ChangeAlike
import Derived.Laws.RangeAny
import Derived.Maps.RangeRun
import Derived.Lib.Bytealg
import Derived.Lib.Repeat
import Derived.Lib.DecodeN
import Derived.Lib.ValidU
import Derived.Lib.MapLaws
namespace Go.Proofs.YtmmnimagbnlcmaaGreatDoor
open Go Go.RowKit Go.Fw Go.Sx Go.ChangeShapes Go.WideShapes Go.ChangeAt
set_option maxRecDepth 100000
set_option maxHeartbeats 2000000
attribute [local irreducible] SW SL SQ AtQ SV SC BB LD PK Yields SO SOT SOA SY
theorem own:ownKnob Tryz.prog.godebug=none:=by kernel_rfl
theorem laidOut:laidOutB Tryz.prog=true:=by kernel_rfl
abbrev A3:=Int
abbrev en3:A3→List Value:=fun z=>[.int .i64 z]
abbrev ok3:World→A3→Prop:=fun _ z=>(Lit.int .i64 z).wf=true
abbrev bk3:A3→Nat:=fun _=>0
theorem tr3:Tr Tryz.prog 3 A3 en3 ok3 bk3:=Tr.int Tryz.underlying3 (by kernel_rfl)
abbrev A31:=(A3)×(A3)×(A3)
abbrev BL6:A31→List Value:=fun p=>en3 p.1++(en3 p.2.1++(en3 p.2.2))
abbrev BK6:World→A31→Prop:=fun W p=>ok3 W p.1∧ok3 W p.2.1∧ok3 W p.2.2
abbrev BK3:A31→Nat:=fun p=>bk3 p.1+(bk3 p.2.1+(bk3 p.2.2))
theorem Bb9:Tr Tryz.prog 31 A31 BL6 BK6 BK3:=Tr.struct (l:=[(0,3),(1,3),(2,3)]) (n:=3) (TrS.cons (o:=0) (o':=1) (n:=3) tr3 (by kernel_rfl) (TrS.cons (o:=1) (o':=2) (n:=3) tr3 (by kernel_rfl) (TrS.one (o:=2) (n:=3) tr3 (by kernel_rfl)))) Tryz.underlying31 (by kernel_rfl) (by kernel_rfl)
abbrev A97:=(A3)×(A31)
abbrev Bj8:A97→List Value:=fun p=>en3 p.1++(BL6 p.2)
abbrev B37:World→A97→Prop:=fun W p=>ok3 W p.1∧BK6 W p.2
abbrev CA3:A97→Nat:=fun p=>bk3 p.1+(BK3 p.2)
theorem CL2:Tr Tryz.prog 97 A97 Bj8 B37 CA3:=Tr.struct (l:=[(0,3),(1,31)]) (n:=4) (TrS.cons (o:=0) (o':=1) (n:=4) tr3 (by kernel_rfl) (TrS.one (o:=1) (n:=4) Bb9 (by kernel_rfl))) Tryz.underlying97 (by kernel_rfl) (by kernel_rfl)
abbrev A27:=Rx A97
abbrev Bk5:A27→List Value:=fun x=>[rxV x]
abbrev Bg3:World→A27→Prop:=fun W x=>x.2.2.length≤x.2.1∧x.2.2.length≤maxLen∧At W x.1 (x.2.2.flatMap Bj8)∧∀y∈x.2.2,B37 W y
abbrev Be5:A27→Nat:=fun x=>(x.2.2.map fun y=>CA3 y+1).sum
theorem CC2:Tr Tryz.prog 27 A27 Bk5 Bg3 Be5:=Tr.slice CL2 Tryz.underlying27 (by kernel_rfl) (of_decide_eq_true (by kernel_rfl))
abbrev A29:=(A3)×(A3)×(A27)
abbrev Bk3:A29→List Value:=fun p=>en3 p.1++(en3 p.2.1++(Bk5 p.2.2))
abbrev Bj3:World→A29→Prop:=fun W p=>ok3 W p.1∧ok3 W p.2.1∧Bg3 W p.2.2
abbrev Bi6:A29→Nat:=fun p=>bk3 p.1+(bk3 p.2.1+(Be5 p.2.2))
theorem B39:Tr Tryz.prog 29 A29 Bk3 Bj3 Bi6:=Tr.struct (l:=[(0,3),(1,3),(2,27)]) (n:=3) (TrS.cons (o:=0) (o':=1) (n:=3) tr3 (by kernel_rfl) (TrS.cons (o:=1) (o':=2) (n:=3) tr3 (by kernel_rfl) (TrS.one (o:=2) (n:=3) CC2 (by kernel_rfl)))) Tryz.underlying29 (by kernel_rfl) (by kernel_rfl)
abbrev A4:=Bool
abbrev en4:A4→List Value:=fun z=>[.bool z]
abbrev ok4:World→A4→Prop:=fun _ _=>True
abbrev bk4:A4→Nat:=fun _=>0
theorem tr4:Tr Tryz.prog 4 A4 en4 ok4 bk4:=Tr.bool Tryz.underlying4 (by kernel_rfl)
abbrev A32:=Int
abbrev B87:A32→List Value:=fun z=>[.int .u64 z]
abbrev ok32:World→A32→Prop:=fun _ z=>(Lit.int .u64 z).wf=true
abbrev CL7:A32→Nat:=fun _=>0
theorem CM4:Tr Tryz.prog 32 A32 B87 ok32 CL7:=Tr.int Tryz.underlying32 (by kernel_rfl)
abbrev A33:={L:List A32 // L.length=4}
abbrev CB3:A33→List Value:=fun L=>L.1.flatMap B87
abbrev B71:World→A33→Prop:=fun W L=>∀y∈L.1,ok32 W y
abbrev CA7:A33→Nat:=fun _=>0
theorem CM3:Tr Tryz.prog 33 A33 CB3 B71 CA7:=Tr.array CM4 Tryz.underlying33 (by kernel_rfl)
abbrev A35:=(A33)
abbrev B58:A35→List Value:=CB3
abbrev CB1:World→A35→Prop:=B71
abbrev B81:A35→Nat:=CA7
theorem CK8:Tr Tryz.prog 35 A35 B58 CB1 B81:=Tr.struct (l:=[(0,33)]) (n:=4) (TrS.one (o:=0) (n:=4) CM3 (by kernel_rfl)) Tryz.underlying35 (by kernel_rfl) (by kernel_rfl)
abbrev A36:={L:List A3 // L.length=2}
abbrev Bf7:A36→List Value:=fun L=>L.1.flatMap en3
abbrev Bh9:World→A36→Prop:=fun W L=>∀y∈L.1,ok3 W y
abbrev Bd8:A36→Nat:=fun _=>0
theorem CD3:Tr Tryz.prog 36 A36 Bf7 Bh9 Bd8:=Tr.array tr3 Tryz.underlying36 (by kernel_rfl)
abbrev A38:=(A3)×(A3)×(A31)×(A4)×(A36)×(A3)
abbrev CD2:A38→List Value:=fun p=>en3 p.1++(en3 p.2.1++(BL6 p.2.2.1++(en4 p.2.2.2.1++(Bf7 p.2.2.2.2.1++(en3 p.2.2.2.2.2)))))
abbrev CA8:World→A38→Prop:=fun W p=>ok3 W p.1∧ok3 W p.2.1∧BK6 W p.2.2.1∧ok4 W p.2.2.2.1∧Bh9 W p.2.2.2.2.1∧ok3 W p.2.2.2.2.2
abbrev B96:A38→Nat:=fun p=>bk3 p.1+(bk3 p.2.1+(BK3 p.2.2.1+(bk4 p.2.2.2.1+(Bd8 p.2.2.2.2.1+(bk3 p.2.2.2.2.2)))))
theorem CL0:Tr Tryz.prog 38 A38 CD2 CA8 B96:=Tr.struct (l:=[(0,3),(1,3),(2,31),(5,4),(6,36),(8,3)]) (n:=9) (TrS.cons (o:=0) (o':=1) (n:=9) tr3 (by kernel_rfl) (TrS.cons (o:=1) (o':=2) (n:=9) tr3 (by kernel_rfl) (TrS.cons (o:=2) (o':=5) (n:=9) Bb9 (by kernel_rfl) (TrS.cons (o:=5) (o':=6) (n:=9) tr4 (by kernel_rfl) (TrS.cons (o:=6) (o':=8) (n:=9) CD3 (by kernel_rfl) (TrS.one (o:=8) (n:=9) tr3 (by kernel_rfl))))))) Tryz.underlying38 (by kernel_rfl) (by kernel_rfl)
abbrev A9:=ByteArray
abbrev en9:A9→List Value:=fun z=>[.string z]
abbrev ok9:World→A9→Prop:=fun _ z=>z.size≤maxLen
abbrev bk9:A9→Nat:=fun z=>z.size
theorem tr9:Tr Tryz.prog 9 A9 en9 ok9 bk9:=Tr.str Tryz.underlying9 (by kernel_rfl)
abbrev A03:=(A27)
abbrev Bq5:A03→List Value:=Bk5
abbrev Bp2:World→A03→Prop:=Bg3
abbrev Bp9:A03→Nat:=Be5
theorem CI6:Tr Tryz.prog 119 A03 Bq5 Bp2 Bp9:=Tr.struct (l:=[(0,27)]) (n:=1) (TrS.one (o:=0) (n:=1) CC2 (by kernel_rfl)) Tryz.underlying119 (by kernel_rfl) (by kernel_rfl)
abbrev A39:=Rx A03
abbrev B92:A39→List Value:=fun x=>[rxV x]
abbrev CA5:World→A39→Prop:=fun W x=>x.2.2.length≤x.2.1∧x.2.2.length≤maxLen∧At W x.1 (x.2.2.flatMap Bq5)∧∀y∈x.2.2,Bp2 W y
abbrev B89:A39→Nat:=fun x=>(x.2.2.map fun y=>Bp9 y+1).sum
theorem CK0:Tr Tryz.prog 39 A39 B92 CA5 B89:=Tr.slice CI6 Tryz.underlying39 (by kernel_rfl) (of_decide_eq_true (by kernel_rfl))
abbrev A41:=(A29)×(A3)×(A3)×(A4)×(A3)×(A3)×(A31)×(A3)×(A35)×(A36)×(A3)×(A38)×(A29)×(A9)×(A39)
abbrev B77:A41→List Value:=fun p=>Bk3 p.1++(en3 p.2.1++(en3 p.2.2.1++(en4 p.2.2.2.1++(en3 p.2.2.2.2.1++(en3 p.2.2.2.2.2.1++(BL6 p.2.2.2.2.2.2.1++(en3 p.2.2.2.2.2.2.2.1++(B58 p.2.2.2.2.2.2.2.2.1++(Bf7 p.2.2.2.2.2.2.2.2.2.1++(en3 p.2.2.2.2.2.2.2.2.2.2.1++(CD2 p.2.2.2.2.2.2.2.2.2.2.2.1++(Bk3 p.2.2.2.2.2.2.2.2.2.2.2.2.1++(en9 p.2.2.2.2.2.2.2.2.2.2.2.2.2.1++(B92 p.2.2.2.2.2.2.2.2.2.2.2.2.2.2))))))))))))))
abbrev B49:World→A41→Prop:=fun W p=>Bj3 W p.1∧ok3 W p.2.1∧ok3 W p.2.2.1∧ok4 W p.2.2.2.1∧ok3 W p.2.2.2.2.1∧ok3 W p.2.2.2.2.2.1∧BK6 W p.2.2.2.2.2.2.1∧ok3 W p.2.2.2.2.2.2.2.1∧CB1 W p.2.2.2.2.2.2.2.2.1∧Bh9 W p.2.2.2.2.2.2.2.2.2.1∧ok3 W p.2.2.2.2.2.2.2.2.2.2.1∧CA8 W p.2.2.2.2.2.2.2.2.2.2.2.1∧Bj3 W p.2.2.2.2.2.2.2.2.2.2.2.2.1∧ok9 W p.2.2.2.2.2.2.2.2.2.2.2.2.2.1∧CA5 W p.2.2.2.2.2.2.2.2.2.2.2.2.2.2
abbrev CL1:A41→Nat:=fun p=>Bi6 p.1+(bk3 p.2.1+(bk3 p.2.2.1+(bk4 p.2.2.2.1+(bk3 p.2.2.2.2.1+(bk3 p.2.2.2.2.2.1+(BK3 p.2.2.2.2.2.2.1+(bk3 p.2.2.2.2.2.2.2.1+(B81 p.2.2.2.2.2.2.2.2.1+(Bd8 p.2.2.2.2.2.2.2.2.2.1+(bk3 p.2.2.2.2.2.2.2.2.2.2.1+(B96 p.2.2.2.2.2.2.2.2.2.2.2.1+(Bi6 p.2.2.2.2.2.2.2.2.2.2.2.2.1+(bk9 p.2.2.2.2.2.2.2.2.2.2.2.2.2.1+(B89 p.2.2.2.2.2.2.2.2.2.2.2.2.2.2))))))))))))))
theorem CL9:Tr Tryz.prog 41 A41 B77 B49 CL1:=Tr.struct (l:=[(0,29),(3,3),(4,3),(5,4),(6,3),(7,3),(8,31),(11,3),(12,35),(16,36),(18,3),(19,38),(28,29),(31,9),(32,39)]) (n:=33) (TrS.cons (o:=0) (o':=3) (n:=33) B39 (by kernel_rfl) (TrS.cons (o:=3) (o':=4) (n:=33) tr3 (by kernel_rfl) (TrS.cons (o:=4) (o':=5) (n:=33) tr3 (by kernel_rfl) (TrS.cons (o:=5) (o':=6) (n:=33) tr4 (by kernel_rfl) (TrS.cons (o:=6) (o':=7) (n:=33) tr3 (by kernel_rfl) (TrS.cons (o:=7) (o':=8) (n:=33) tr3 (by kernel_rfl) (TrS.cons (o:=8) (o':=11) (n:=33) Bb9 (by kernel_rfl) (TrS.cons (o:=11) (o':=12) (n:=33) tr3 (by kernel_rfl) (TrS.cons (o:=12) (o':=16) (n:=33) CK8 (by kernel_rfl) (TrS.cons (o:=16) (o':=18) (n:=33) CD3 (by kernel_rfl) (TrS.cons (o:=18) (o':=19) (n:=33) tr3 (by kernel_rfl) (TrS.cons (o:=19) (o':=28) (n:=33) CL0 (by kernel_rfl) (TrS.cons (o:=28) (o':=31) (n:=33) B39 (by kernel_rfl) (TrS.cons (o:=31) (o':=32) (n:=33) tr9 (by kernel_rfl) (TrS.one (o:=32) (n:=33) CK0 (by kernel_rfl)))))))))))))))) Tryz.underlying41 (by kernel_rfl) (by kernel_rfl)
theorem slTop {α:Type} {f:List α→List Value} {W:World} {H:List Ent} {a:Option Addr} {c:Nat} {L:List α} (h1:L.length≤c) (h2:L.length≤maxLen) (h:At W a (f L)):Sl f ⟨W.heap.size,W⟩ H (a,c,L):=fun w hw=>⟨h1,h2,(Rd.top h rfl) w hw⟩
theorem A20 {W:World} {a:Option Addr} {C:List Qd} (h:At W a (C.flatMap Bj8)):At W a (qds C):=h
theorem Bq2 {α:Type} {l:List α} (h:l.length=2):∃a b,l=[a,b]:=by
  match l,h with
  | [a,b],_=>exact⟨a,b,rfl⟩
theorem CE5 {α:Type} {l:List α} (h:l.length=4):∃a b c d,l=[a,b,c,d]:=by
  match l,h with
  | [a,b,c,d],_=>exact⟨a,b,c,d,rfl⟩
theorem A19 (G:Ctx) (M:Int) (hM:∀H w,Holds G H w→w.cell? ⟨2,0,none⟩=some (.int .i64 M)) (hT:∀H w,Holds G H w→Lib.Utf8Tabs 0 1 w) (hPw:∀H,AP2 G H) (t:Toc) (C D:List Qd) (X:List (Rx Qd)) (ga:Option Addr) (gc:Nat) (oa:Option Addr) (oc:Nat) (pa:Option Addr) (pc:Nat) (h1:∀H,RdC G H ga (qds C)) (h2:∀H,RdC G H oa (qds D)) (h3:∀H,RdC G H pa (X.map rxV)) (hr:∀H,RdX qds G H X) (hgc:C.length≤gc) (hoc:D.length≤oc) (hb1:C.length≤9223372036854775807) (hb2:D.length≤9223372036854775807) (hb3:X.length≤9223372036854775807) (cut:Int):
    SV Tryz.prog G 4 [.agg (tocC t ga C.length gc oa D.length oc pa X.length pc).toArray,.int .i64 cut] [] (.bool true):=by
  rcases AL5 t.w t.h with ⟨_,hw⟩|⟨hs,_⟩
  · obtain⟨w,hw1⟩:∃w:Nat,(w:Int)=t.w:=⟨t.w.toNat,by omega⟩
    obtain⟨h,hh1⟩:∃h:Nat,(h:Int)=t.h:=⟨t.h.toNat,by omega⟩
    by_cases hk:Aa1 (pastB X) t (gridE t.w t.h C) (gridE t.w2 t.h2 D) (if penB t.pf t.pr t.pb=true then 0 else 4) (if penB t.spf t.spr t.spb=true then 0 else 4)
    · have cT:=fun H=>(haveI:=h1 H;haveI:=h2 H;haveI:=h3 H;Ah7 G H t C D X ga C.length gc oa D.length oc pa X.length pc (hr H) rfl hgc rfl hoc rfl hb1 hb2 hb3 0 (.inl ⟨rfl,hk⟩))
      have hge:=At9 hk
      have k5:=hk.1.1.1.1
      have hpe:penB t.pf t.pr t.pb=true:=by
        have h:=k5.2.1
        by_cases hp:penB t.pf t.pr t.pb=true
        · exact hp
        · rw[if_neg hp] at h
          exact absurd h (by decide)
      have hrow:=k5.1.1.2.1
      have hcol:=k5.1.1.2.2.1
      have g:GrOk w h C:=by
        have h5:=(Ag2 hge).2
        refine⟨by omega,?_,BA6 (by rw[hw1,hh1];exact hge)⟩
        rw[←hw1,←hh1,←Int.natCast_mul] at h5
        exact Int.ofNat.inj h5
      exact Av3 G M hM hT hPw _ w h C g ga C.length gc t.row t.col (t.pf,t.pr,t.pb) ⟨rfl,rfl,by rw[hw1,hh1];rfl,rfl,rfl,rfl⟩ rfl hgc (by rw[hw1];rfl) (by rw[hh1];rfl) hpe (by omega) (by omega) cut cT
    · have cT:=fun H=>(haveI:=h1 H;haveI:=h2 H;haveI:=h3 H;Ah7 G H t C D X ga C.length gc oa D.length oc pa X.length pc (hr H) rfl hgc rfl hoc rfl hb1 hb2 hb3 4 (.inr ⟨rfl,hk⟩))
      exact A85 G M hM hT _ rfl w h (by omega) ga C.length gc (by rw[hw1,hh1];rfl) (by rw[hw1];rfl) (by rw[hh1];rfl) cut cT
  · exact BB8 G M hM hT _ rfl t.w t.h ga C.length gc rfl rfl rfl cut hs
theorem Av8 (W:World) (y0:A41) (o0:B49 W y0) (y1:A3) (_:ok3 W y1) (hL:laidMetH Tryz.prog Rows.topDrawnRow.laid W) (hS:W.ShapedOpen Tryz.prog):Calls Tryz.prog 4 #[.agg (B77 y0).toArray,.int .i64 y1] W fun e w'=>e= .returned (.bool true)∧Below W.heap.size W w':=by
  have hL':laidMet Tryz.prog Rows.topDrawnRow.laid W:=hL
  have hT:=Bs2 (B68 hL' (.tail _ (.tail _ (.tail _ (.tail _ (.head _))))) (.tail _ (.tail _ (.tail _ (.head _)))))
  have hP:=BH4 (W:=W) (laid:=Rows.topDrawnRow.laid) hL' (.tail _ (.tail _ (.head _)))
  obtain⟨m,hM⟩:=BB4 W hS
  obtain⟨⟨w,h,ga,gc,C⟩,row,col,late,top,bot,⟨pf,pr,pb⟩,modes,⟨sL,hsL⟩,⟨pL,hpL⟩,sh,⟨sr,sc,⟨spf,spr,spb⟩,so,⟨spL,hspL⟩,ssh⟩,⟨w2,h2,oa,oc,D⟩,ti,⟨pa,pc,X⟩⟩:=y0
  obtain⟨s0,s1,s2,s3,rfl⟩:=CE5 hsL
  obtain⟨p0,p1,rfl⟩:=Bq2 hpL
  obtain⟨sp0,sp1,rfl⟩:=Bq2 hspL
  obtain⟨⟨-,-,g1,g2,g3,-⟩,-,-,-,-,-,-,-,-,-,-,-,⟨-,-,q1,q2,q3,-⟩,-,⟨x1,x2,x3,x4⟩⟩:=o0
  dsimp only at g1 g2 g3 q1 q2 q3 x1 x2 x3 x4
  have hx3:At W pa (X.map rxV):=by
    have e:X.flatMap (fun z=>[rxV z])=X.map rxV:=CD1 rxV X
    rw[←e];exact x3
  have hmx:maxLen≤9223372036854775807:=by decide
  exact A99 (A19 _ m hM hT hP ⟨w,h,row,col,late,top,bot,pf,pr,pb,modes,s0,s1,s2,s3,p0,p1,sh,sr,sc,spf,spr,spb,so,sp0,sp1,ssh,w2,h2,ti⟩ C D X ga gc oa oc pa pc (fun H=>RdC.top (A20 g3)) (fun H=>RdC.top (A20 q3)) (fun H=>RdC.top hx3) (fun H x hx=>slTop (x4 x hx).1 (x4 x hx).2.1 (A20 (x4 x hx).2.2.1)) g1 q1 (by omega) (by omega) (by omega) y1)
set_option maxRecDepth 100000 in
theorem A47 {H:Type} (enc:TypeId×Value→H) (W:World) {base:Nat} {v0 v1:Value} {d0 d1:DataW H} {p0 p1:List MemPlace}
    (k0:Value.okWide Tryz.prog W .any base 41 v0) (h0:DataW.Trod enc Tryz.prog W 0 (fun _=>true) true 41 v0 d0 p0)
    (k1:Value.okWide Tryz.prog W .any base 3 v1) (h1:DataW.Trod enc Tryz.prog W 0 (fun _=>true) true 3 v1 d1 p1)
    (hL:laidMetH Tryz.prog Rows.topDrawnRow.laid W) (hS:W.ShapedOpen Tryz.prog)
    :Calls Tryz.prog 4 #[v0,v1] W fun e w'=>e= .returned (.bool true)∧Below W.heap.size W w':=by
  obtain⟨y0,rfl,o0,b0⟩:=B78 Tryz.underlying41 CL9 k0 h0
  obtain⟨y1,rfl,o1,b1⟩:=CD0 Tryz.underlying3 tr3 k1 h1
  exact Av8 W y0 o0 y1 o1 hL hS
set_option maxRecDepth 100000 in
theorem Ag6 (H:Type) (enc:TypeId×Value→H) (W:World) (base:Nat) (args:Array Value) (ds gs:List (DataW H)) (before:List MemPlace)
    (hval:∀(j:Nat) t v,Tryz.f4.params[j]? =some t→args[j]? =some v→Value.okWide Tryz.prog W .any base t v)
    (hW:DataW.Whole enc Tryz.prog Tryz.f4.params.toList Rows.topDrawnSpec.vars false W args.toList ds gs before) (hL:laidMetH Tryz.prog Rows.topDrawnRow.laid W) (hS:W.ShapedOpen Tryz.prog):
    Calls Tryz.prog 4 args W fun e W'=>∃v,e= .returned v∧Rows.topDrawnSpec.post enc Tryz.prog Tryz.f4 false true false false W args v W':=by
  have hW':=hW
  obtain⟨p,q,hA0,hV,rfl,hfz,hnd⟩:=hW'
  have hA:DataW.TrodAll enc Tryz.prog W 0 (fun _=>true) true Tryz.f4.params.toList args.toList ds p:=hA0
  rw[Tryz.params4] at hA hval
  obtain⟨v0,vs0,d0,ds0,p0,q0,hargs,rfl,rfl,h0,r0⟩:=trodAll_cons hA
  obtain⟨v1,vs1,d1,ds1,p1,q1,rfl,rfl,rfl,h1,r1⟩:=trodAll_cons r0
  obtain⟨rfl,rfl,rfl⟩:=trodAll_nil r1
  obtain rfl:args=#[v0,v1]:=by cases args;simp_all
  obtain⟨rfl,rfl⟩:=trodVars_none hV
  clear hA0
  have k0:=hval 0 41 v0 rfl rfl
  have k1:=hval 1 3 v1 rfl rfl
  refine(A47 enc W k0 h0 k1 h1 hL hS).mono fun e W' ⟨he,hg⟩=>?_
  subst he
  exact⟨_,rfl,Bh6 (s:=Rows.topDrawnSpec) laidOut (by kernel_rfl) rfl Tryz.underlying4 rfl hW rfl hg⟩
noncomputable def AO3 (os:Os):World:={World.holding Tryz.prog os ⟨#[],#[],[]⟩ with heap:=((((((World.holding Tryz.prog os ⟨#[],#[],[]⟩).heap.modify 4 fun| .cells _ t frozen=> .cells (AX5 Rows.laid_math_bits_deBruijn32tab).toArray t frozen|o=>o).modify 5 fun| .cells _ t frozen=> .cells (AX5 Rows.laid_math_bits_deBruijn64tab).toArray t frozen|o=>o).modify 3 fun| .cells _ t frozen=> .cells (AX5 Rows.laid_internal_strconv_uint64pow10).toArray t frozen|o=>o).modify 1 fun| .cells _ t frozen=> .cells (AX5 Rows.laid_unicode_utf8_acceptRanges).toArray t frozen|o=>o).modify 0 fun| .cells _ t frozen=> .cells (AX5 Rows.laid_unicode_utf8_first).toArray t frozen|o=>o)}
theorem Aw8 (os:Os):laidMet Tryz.prog Rows.topDrawnRow.laid ((AO3 os).forCall (fun _ _=>0) ⟨#[],#[.agg (List.toArray (.int .i64 0:: .int .i64 0:: .slice none 0 0:: .int .i64 0:: .int .i64 0:: .bool false:: .int .i64 0:: .int .i64 0:: .int .i64 0:: .int .i64 0:: .int .i64 0:: .int .i64 0:: .int .u64 0:: .int .u64 0:: .int .u64 0:: .int .u64 0:: .int .i64 0:: .int .i64 0:: .int .i64 0:: .int .i64 0:: .int .i64 0:: .int .i64 0:: .int .i64 0:: .int .i64 0:: .bool false:: .int .i64 0:: .int .i64 0:: .int .i64 0:: .int .i64 0:: .int .i64 0:: .slice none 0 0:: .string .empty:: .slice none 0 0::[])),.int .i64 0],[]⟩).memory:=laidMet_of_run' 12 (by kernel_rfl) (by kernel_rfl)
theorem Ao4 (os:Os) {H:Type} (enc:TypeId×Value→H):∃places,DataW.whole enc Tryz.prog ((AO3 os).forCall (fun _ _=>0) ⟨#[],#[.agg (List.toArray (.int .i64 0:: .int .i64 0:: .slice none 0 0:: .int .i64 0:: .int .i64 0:: .bool false:: .int .i64 0:: .int .i64 0:: .int .i64 0:: .int .i64 0:: .int .i64 0:: .int .i64 0:: .int .u64 0:: .int .u64 0:: .int .u64 0:: .int .u64 0:: .int .i64 0:: .int .i64 0:: .int .i64 0:: .int .i64 0:: .int .i64 0:: .int .i64 0:: .int .i64 0:: .int .i64 0:: .bool false:: .int .i64 0:: .int .i64 0:: .int .i64 0:: .int .i64 0:: .int .i64 0:: .slice none 0 0:: .string .empty:: .slice none 0 0::[])),.int .i64 0],[]⟩).memory Tryz.f4.params.toList Rows.topDrawnSpec.vars false (#[.agg (List.toArray (.int .i64 0:: .int .i64 0:: .slice none 0 0:: .int .i64 0:: .int .i64 0:: .bool false:: .int .i64 0:: .int .i64 0:: .int .i64 0:: .int .i64 0:: .int .i64 0:: .int .i64 0:: .int .u64 0:: .int .u64 0:: .int .u64 0:: .int .u64 0:: .int .i64 0:: .int .i64 0:: .int .i64 0:: .int .i64 0:: .int .i64 0:: .int .i64 0:: .int .i64 0:: .int .i64 0:: .bool false:: .int .i64 0:: .int .i64 0:: .int .i64 0:: .int .i64 0:: .int .i64 0:: .slice none 0 0:: .string .empty:: .slice none 0 0::[])),.int .i64 0]:Array Value).toList 12=some ([.agg [.agg [.lit (.int .i64 0),.lit (.int .i64 0),.nil],.lit (.int .i64 0),.lit (.int .i64 0),.lit (.bool false),.lit (.int .i64 0),.lit (.int .i64 0),.agg [.lit (.int .i64 0),.lit (.int .i64 0),.lit (.int .i64 0)],.lit (.int .i64 0),.agg [.agg [.lit (.int .u64 0),.lit (.int .u64 0),.lit (.int .u64 0),.lit (.int .u64 0)]],.agg [.lit (.int .i64 0),.lit (.int .i64 0)],.lit (.int .i64 0),.agg [.lit (.int .i64 0),.lit (.int .i64 0),.agg [.lit (.int .i64 0),.lit (.int .i64 0),.lit (.int .i64 0)],.lit (.bool false),.agg [.lit (.int .i64 0),.lit (.int .i64 0)],.lit (.int .i64 0)],.agg [.lit (.int .i64 0),.lit (.int .i64 0),.nil],.lit (.string []),.nil],.lit (.int .i64 0)],[],places):=⟨[],by kernel_rfl⟩
set_option maxRecDepth 100000 in
theorem An3 (os:Os) (started:os.Started) (H:Type) (enc:TypeId×Value→H) (F:Stop.Interp):
    ReturnsInHanded {} Tryz.checked os 4 .any ((OpenSpec.ofChange Rows.topDrawnSpec).preRow enc Tryz.prog Tryz.f4 Rows.topDrawnRow.domain false Rows.topDrawnRow.laid) (((OpenSpec.ofChange Rows.topDrawnSpec).at F).post enc Tryz.prog Tryz.f4 false true false false):=by
  obtain⟨places,hx⟩:=Ao4 os enc
  refine returnsInHanded_of_row (C:=Tryz.checked) (s:=OpenSpec.ofChange Rows.topDrawnSpec) own started (by kernel_rfl) Tryz.func4
    (witness_row_at (enc:=enc) (C:=Tryz.checked) false (AO3 os) #[.agg (List.toArray (.int .i64 0:: .int .i64 0:: .slice none 0 0:: .int .i64 0:: .int .i64 0:: .bool false:: .int .i64 0:: .int .i64 0:: .int .i64 0:: .int .i64 0:: .int .i64 0:: .int .i64 0:: .int .u64 0:: .int .u64 0:: .int .u64 0:: .int .u64 0:: .int .i64 0:: .int .i64 0:: .int .i64 0:: .int .i64 0:: .int .i64 0:: .int .i64 0:: .int .i64 0:: .int .i64 0:: .bool false:: .int .i64 0:: .int .i64 0:: .int .i64 0:: .int .i64 0:: .int .i64 0:: .slice none 0 0:: .string .empty:: .slice none 0 0::[])),.int .i64 0] rfl (by kernel_rfl) (by kernel_rfl) (by kernel_rfl)
      (OpenSpec.preRow_of_cond 12 hx (by kernel_rfl) (fun k hk=>by cases hk) (by kernel_rfl) (Aw8 os))) ?_
  intro W base args ds gs before hval hW _ _ _ hL hS _
  exact Ag6 H enc W base args ds gs before hval hW hL hS
theorem Ag3:(Rows.topDrawnRow.inPlace==Program.inPlace Tryz.pinned.checked.prog 4)=true:=by kernel_rfl
theorem AY7:(Rows.topDrawnRow.unfollowed==Program.unfollowed Tryz.pinned.checked.prog 4)=true:=by kernel_rfl
theorem Ad2:(Rows.topDrawnRow.recurses==Program.recurses Tryz.pinned.checked.prog 4)=true:=by kernel_rfl
theorem Am2:(Rows.topDrawnRow.named==Program.varsNamed Tryz.pinned.checked.prog 4)=true:=by kernel_rfl
theorem Al1:joinedFacts Tryz.pinned.checked.prog 4 Tryz.f4 (OpenSpec.ofChange Rows.topDrawnSpec).bare Rows.topDrawnRow=true:=by
  unfold joinedFacts
  rw[Ag3,AY7,Ad2,Am2]
  kernel_rfl
theorem Aq9:Rows.TopDrawnSaid:=
  OpenClaim.holds_of_cond 4 Tryz.f4 rfl rfl rfl rfl rfl rfl rfl ⟨rfl,rfl,rfl,rfl,rfl⟩ rfl rfl rfl rfl rfl (by kernel_rfl) Tryz.func4 Al1
    (of_decide_eq_true (by kernel_rfl)) (by unfold Func.isWrapper;(rw[if_neg (by decide+kernel)];exact⟨rfl,rfl⟩))
    (fun os started H enc _ F=>by rw[OpenClaim.pre_eq_preRow];exact An3 os started H enc F)
theorem Aq1 (f:FuncId) (fn:Func) (hf:Tryz.pinned.checked.prog.funcNamed "farwriter/fartop.TopDrawn"=some f) (hfn:Tryz.pinned.checked.prog.funcs[f]? =some fn):
    false=Tryz.pinned.checked.prog.looks []∧∀(j:Nat) t,fn.params[j]? =some t→Tryz.pinned.checked.prog.wantsStandIn t=false:=by
  obtain rfl:f=4:=Option.some.inj ((show Tryz.prog.funcNamed "farwriter/fartop.TopDrawn"=some 4 by kernel_rfl).symm.trans hf)|>.symm
  obtain rfl:fn=Tryz.f4:=(Option.some.inj (Tryz.func4.symm.trans hfn)).symm
  refine⟨by kernel_rfl,fun j t ht=>?_⟩
  rw[Tryz.params4] at ht
  have hm:t∈[41,3]:=by simpa using Array.mem_of_getElem? ht
  have hall:([41,3].all fun u=>!Tryz.prog.wantsStandIn u)=true:=by kernel_rfl
  exact(show Tryz.prog.wantsStandIn t=false by simpa using List.all_eq_true.1 hall t hm)
theorem topDrawn_card:Rows.TopDrawnCardSaid:=
  Claim7.holds_tied_plain_at .later [] _ _ _ _ Aq9 (fun _ h=>by cases h) (by kernel_rfl) (fun _ h=>by cases h) topDrawn_row_tie rfl ⟨rfl,rfl⟩ (by kernel_rfl) rfl Aq1 (by kernel_rfl)
end Go.Proofs.YtmmnimagbnlcmaaGreatDoor
