/- fartop.TopTyped returns true for every input, and each argument reads as it read. -/
import Derived.Test.YtmmnimagbnlcmaaGreatDoorTy19
import Derived.Test.YtmmnimagbnlcmaaGreatDoorRows
import Derived.WalkKit
import Derived.WalkSpells
import Derived.WalkLawsBesides
import Derived.Handy
import Derived.Lib.Hide
import Derived.Laws.BitsAllLaws
import Derived.Deep.MidRow
import Derived.Deep.WholeRow
import Derived.ProofKit
import Derived.OpenShut
import Derived.JoinedCond
import Derived.SliceStrings
import Derived.BigQuiet
import Derived.Laws.CopyOwn
import Derived.Deep.QuietTactic
import Derived.Laws.AppendOwnNone
import Derived.Laws.MakeOwn
import Derived.Laws.IdiomStrings
import Derived.OrdersHeld
import Derived.Lib.SliceRun
import Derived.ChangeKeysEq
import Derived.Laws.CopyRow
import Derived.Test.YtmmnimagbnlcmaaGreatDoorCards
import Derived.Test.YtmmnimagbnlcmaaGreatDoorTie
import Derived.Deep.DeepHandedRow
import Derived.Shelf.Vars
import Derived.Shelf.Strings.Builder1
import Derived.Shelf.Strings.Builder2
import Derived.Shelf.Strings.OnBuilder
import Derived.Shelf.Strings.Trim
import Derived.Shelf.Small.Utf8
import Derived.Shelf.Small.Strs
import Derived.Shelf.Strings.BuilderF
import Derived.Shelf.Strconv.Itoa0
import Derived.Shelf.Strconv.Itoa1
import Derived.Shelf.LaysM
import Derived.Shelf.Strconv.Itoa2
import Derived.Shelf.Strconv.Itoa3
import Derived.Shelf.Strings.Search1
import Derived.Shelf.Strings.Search2
import Derived.Shelf.Strings.Search3
import Derived.Shelf.Strings.Count
import Derived.Shelf.Strings.Shaped
import Derived.Shelf.Strings.LastIndex
import Derived.Shelf.Strings.Prefix
import Derived.Shelf.Strings.Split
import Derived.Shelf.Strings.Replace
import Derived.Shelf.Strings.SplitShaped
import Derived.Shelf.Strings.Runes
import Derived.Shelf.Strings.AsciiSet
import Derived.Shelf.Bits.Mul64
import Derived.Shelf.Strings.Repeat
import Derived.Shelf.Unicode.DecodeSlow
import Derived.Shelf.Unicode.DecodeAny
import Derived.Shelf.Unicode.ValidAny
import Derived.Test.YtmmnimagbnlcmaaGreatDoorProg
import Derived.Lib.LaidU8
import Derived.Lib.AppendStr
import Derived.ArgAppend
import Derived.Lib.Replace
import Derived.Lib.Join
import Derived.Lib.IndexLaws
import Derived.Lib.ItoaNum
import Derived.Lib.IndexMore
import Derived.Lib.SplitLaws
import Derived.Lib.AppendIntMem
import Derived.StillTailTactics
import Derived.RegionTactic
import Derived.ChangeAlike
import Derived.Laws.RangeAny
import Derived.Maps.RangeRun
import Derived.Lib.Bytealg
import Derived.Lib.Repeat
import Derived.Lib.DecodeN
import Derived.Lib.ItoaLen
import Derived.Lib.ValidU
import Derived.Lib.MapLaws
set_option maxRecDepth 100000
set_option maxHeartbeats 8000000
open Go Go.RowKit Go.Fw Go.Sx
namespace Go.Proofs.YtmmnimagbnlcmaaGreatDoor
section
open Go.ChangeShapes Go.WideShapes Go.ChangeAt
attribute [local irreducible] SW SL SQ AtQ SV SC BB LD PK Yields SO SOT SOA SY SP SPT SPA
theorem own:ownKnob Tryz.prog.godebug=none:=by kernel_rfl
theorem laidOut:laidOutB Tryz.prog=true:=by kernel_rfl
abbrev A3:=Int
abbrev en3:A3→List Value:=fun z=>[.int .i64 z]
abbrev ok3:World→A3→Prop:=fun _ z=>(Lit.int .i64 z).wf=true
abbrev bk3:A3→Nat:=fun _=>0
theorem tr3:Tr Tryz.prog 3 A3 en3 ok3 bk3:=Tr.int Tryz.underlying3 (by kernel_rfl)
abbrev A68:=(A3)×(A3)×(A3)
abbrev B48:A68→List Value:=fun p=>en3 p.1++(en3 p.2.1++(en3 p.2.2))
abbrev CA6:World→A68→Prop:=fun W p=>ok3 W p.1∧ok3 W p.2.1∧ok3 W p.2.2
abbrev B73:A68→Nat:=fun p=>bk3 p.1+(bk3 p.2.1+(bk3 p.2.2))
theorem CG2:Tr Tryz.prog 68 A68 B48 CA6 B73:=Tr.struct (l:=[(0,3),(1,3),(2,3)]) (n:=3) (TrS.cons (o:=0) (o':=1) (n:=3) tr3 (by kernel_rfl) (TrS.cons (o:=1) (o':=2) (n:=3) tr3 (by kernel_rfl) (TrS.one (o:=2) (n:=3) tr3 (by kernel_rfl)))) Tryz.underlying68 (by kernel_rfl) (by kernel_rfl)
abbrev A22:=Rx A68
abbrev CF9:A22→List Value:=fun x=>[rxV x]
abbrev CA2:World→A22→Prop:=fun W x=>x.2.2.length≤x.2.1∧x.2.2.length≤maxLen∧At W x.1 (x.2.2.flatMap B48)∧∀y∈x.2.2,CA6 W y
abbrev CG1:A22→Nat:=fun x=>(x.2.2.map fun y=>B73 y+1).sum
theorem CF8:Tr Tryz.prog 22 A22 CF9 CA2 CG1:=Tr.slice CG2 Tryz.underlying22 (by kernel_rfl) (of_decide_eq_true (by kernel_rfl))
theorem Az5 (W:World) (y0:A22) (o0:CA2 W y0) (y1:A3) (_:ok3 W y1) (hL:laidMetH Tryz.prog Rows.topTypedRow.laid W) (hS:W.ShapedOpen Tryz.prog):Calls Tryz.prog 3 #[rxV y0,.int .i64 y1] W fun e w'=>e= .returned (.bool true)∧Below W.heap.size W w':=by
 have hL':laidMet Tryz.prog Rows.topTypedRow.laid W:=hL
 have hT:=Bs5 (B59 hL' (.tail _ (.tail _ (.tail _ (.tail _ (.head _))))) (.tail _ (.tail _ (.tail _ (.head _)))))
 have hP:=BJ5 (W:=W) (laid:=Rows.topTypedRow.laid) hL' (.tail _ (.tail _ (.head _)))
 obtain⟨m,hM⟩:=BC5 W hS
 obtain⟨a,cp,L⟩:=y0
 obtain⟨-,-,hA,-⟩:=o0
 have hA':At W a (L.flatMap kyC):=hA
 haveI:∀H,RdC ⟨W.heap.size,W⟩ H a (L.flatMap kyC):=fun H=>RdC.top hA'
 by_cases h60:L.length≤60
 ·exact Ai6 (Az4 _ m hM hT hP L a L.length cp O h60 y1)
 ·exact Ai6 (Az3 _ m hM hT hP a L.length cp (by omega) y1)
theorem A76 {H:Type} (enc:TypeId×Value→H) (W:World) {base:Nat} {v0 v1:Value} {d0 d1:DataW H} {p0 p1:List MemPlace}
 (k0:Value.okWide Tryz.prog W .any base 22 v0) (h0:DataW.Trod enc Tryz.prog W 0 (fun _=>true) true 22 v0 d0 p0)
 (k1:Value.okWide Tryz.prog W .any base 3 v1) (h1:DataW.Trod enc Tryz.prog W 0 (fun _=>true) true 3 v1 d1 p1)
 (hL:laidMetH Tryz.prog Rows.topTypedRow.laid W) (hS:W.ShapedOpen Tryz.prog)
 :Calls Tryz.prog 3 #[v0,v1] W fun e w'=>e= .returned (.bool true)∧Below W.heap.size W w':=by
 obtain⟨y0,rfl,o0,b0⟩:=Bk0 Tryz.underlying22 CF8 k0 h0
 obtain⟨y1,rfl,o1,b1⟩:=CB2 Tryz.underlying3 tr3 k1 h1
 exact Az5 W y0 o0 y1 o1 hL hS
theorem Ai3 (H:Type) (enc:TypeId×Value→H) (W:World) (base:Nat) (args:Array Value) (ds gs:List (DataW H)) (before:List MemPlace)
 (hval:∀(j:Nat) t v,Tryz.f3.params[j]? =some t→args[j]? =some v→Value.okWide Tryz.prog W .any base t v)
 (hW:DataW.Whole enc Tryz.prog Tryz.f3.params.toList Rows.topTypedSpec.vars false W args.toList ds gs before) (hL:laidMetH Tryz.prog Rows.topTypedRow.laid W) (hS:W.ShapedOpen Tryz.prog):
 Calls Tryz.prog 3 args W fun e W'=>∃v,e= .returned v∧Rows.topTypedSpec.post enc Tryz.prog Tryz.f3 false true false false W args v W':=by
 have hW':=hW
 obtain⟨p,q,hA0,hV,rfl,hfz,hnd⟩:=hW'
 have hA:DataW.TrodAll enc Tryz.prog W 0 (fun _=>true) true Tryz.f3.params.toList args.toList ds p:=hA0
 rw[Tryz.params3] at hA hval
 obtain⟨v0,vs0,d0,ds0,p0,q0,hargs,rfl,rfl,h0,r0⟩:=trodAll_cons hA
 obtain⟨v1,vs1,d1,ds1,p1,q1,rfl,rfl,rfl,h1,r1⟩:=trodAll_cons r0
 obtain⟨rfl,rfl,rfl⟩:=trodAll_nil r1
 obtain rfl:args=#[v0,v1]:=by cases args;simp_all
 obtain⟨rfl,rfl⟩:=trodVars_none hV
 clear hA0
 have k0:=hval 0 22 v0 rfl rfl
 have k1:=hval 1 3 v1 rfl rfl
 refine(A76 enc W k0 h0 k1 h1 hL hS).mono fun e W' ⟨he,hg⟩=>?_
 subst he
 exact⟨_,O,Bi6 (s:=Rows.topTypedSpec) laidOut (by kernel_rfl) O Tryz.underlying4 O hW O hg⟩
noncomputable def AQ1 (os:Os):World:={World.holding Tryz.prog os ⟨#[],#[],[]⟩ with heap:=((((((World.holding Tryz.prog os ⟨#[],#[],[]⟩).heap.modify 4 fun| .cells _ t frozen=> .cells (AZ0 Rows.laid_math_bits_deBruijn32tab).toArray t frozen|o=>o).modify 5 fun| .cells _ t frozen=> .cells (AZ0 Rows.laid_math_bits_deBruijn64tab).toArray t frozen|o=>o).modify 3 fun| .cells _ t frozen=> .cells (AZ0 Rows.laid_internal_strconv_uint64pow10).toArray t frozen|o=>o).modify 1 fun| .cells _ t frozen=> .cells (AZ0 Rows.laid_unicode_utf8_acceptRanges).toArray t frozen|o=>o).modify 0 fun| .cells _ t frozen=> .cells (AZ0 Rows.laid_unicode_utf8_first).toArray t frozen|o=>o)}
theorem A66 (os:Os):laidMet Tryz.prog Rows.topTypedRow.laid ((AQ1 os).forCall (fun _ _=>0) ⟨#[],#[.slice none 0 0,.int .i64 0],[]⟩).memory:=laidMet_of_run' 12 (by kernel_rfl) (by kernel_rfl)
theorem Ar1 (os:Os) {H:Type} (enc:TypeId×Value→H):∃places,DataW.whole enc Tryz.prog ((AQ1 os).forCall (fun _ _=>0) ⟨#[],#[.slice none 0 0,.int .i64 0],[]⟩).memory Tryz.f3.params.toList Rows.topTypedSpec.vars false (#[.slice none 0 0,.int .i64 0]:Array Value).toList 12=some ([.nil,.lit (.int .i64 0)],[],places):=⟨[],by kernel_rfl⟩
theorem An5 (os:Os) (started:os.Started) (H:Type) (enc:TypeId×Value→H) (F:Stop.Interp):
 ReturnsInHanded {} Tryz.checked os 3 .any ((OpenSpec.ofChange Rows.topTypedSpec).preRow enc Tryz.prog Tryz.f3 Rows.topTypedRow.domain false Rows.topTypedRow.laid) (((OpenSpec.ofChange Rows.topTypedSpec).at F).post enc Tryz.prog Tryz.f3 false true false false):=by
 obtain⟨places,hx⟩:=Ar1 os enc
 refine returnsInHanded_of_row (C:=Tryz.checked) (s:=OpenSpec.ofChange Rows.topTypedSpec) own started (by kernel_rfl) Tryz.func3
  (witness_row_at (enc:=enc) (C:=Tryz.checked) false (AQ1 os) #[.slice none 0 0,.int .i64 0] rfl (by kernel_rfl) (by kernel_rfl) (by kernel_rfl)
    (OpenSpec.preRow_of_cond 12 hx (by kernel_rfl) (fun k hk=>by cases hk) (by kernel_rfl) (A66 os))) ?_
 intro W base args ds gs before hval hW _ _ _ hL hS _
 exact Ai3 H enc W base args ds gs before hval hW hL hS
theorem Ai1:(Rows.topTypedRow.inPlace==Program.inPlace Tryz.pinned.checked.prog 3)=true:=by kernel_rfl
theorem Ac9:(Rows.topTypedRow.unfollowed==Program.unfollowed Tryz.pinned.checked.prog 3)=true:=by kernel_rfl
theorem Ag0:(Rows.topTypedRow.recurses==Program.recurses Tryz.pinned.checked.prog 3)=true:=by kernel_rfl
theorem An7:(Rows.topTypedRow.named==Program.varsNamed Tryz.pinned.checked.prog 3)=true:=by kernel_rfl
theorem Aq1:joinedFacts Tryz.pinned.checked.prog 3 Tryz.f3 (OpenSpec.ofChange Rows.topTypedSpec).bare Rows.topTypedRow=true:=by
 unfold joinedFacts
 rw[Ai1,Ac9,Ag0,An7]
 kernel_rfl
theorem As1:Rows.TopTypedSaid:=
 OpenClaim.holds_of_cond 3 Tryz.f3 rfl rfl rfl rfl rfl rfl rfl ⟨rfl,rfl,rfl,rfl,rfl⟩ rfl rfl rfl rfl rfl (by kernel_rfl) Tryz.func3 Aq1
  (of_decide_eq_true (by kernel_rfl)) (by unfold Func.isWrapper;(rw[if_neg (by decide+kernel)];exact⟨O,O⟩))
  (fun os started H enc _ F=>by rw[OpenClaim.pre_eq_preRow];exact An5 os started H enc F)
theorem Ar3 (f:FuncId) (fn:Func) (hf:Tryz.pinned.checked.prog.funcNamed "farwriter/fartop.TopTyped"=some f) (hfn:Tryz.pinned.checked.prog.funcs[f]? =some fn):
 false=Tryz.pinned.checked.prog.looks []∧∀(j:Nat) t,fn.params[j]? =some t→Tryz.pinned.checked.prog.wantsStandIn t=false:=by
 obtain rfl:f=3:=Option.some.inj ((show Tryz.prog.funcNamed "farwriter/fartop.TopTyped"=some 3 by kernel_rfl).symm.trans hf)|>.symm
 obtain rfl:fn=Tryz.f3:=(Option.some.inj (Tryz.func3.symm.trans hfn)).symm
 refine⟨by kernel_rfl,fun j t ht=>?_⟩
 rw[Tryz.params3] at ht
 have hm:t∈[22,3]:=by simpa using Array.mem_of_getElem? ht
 have hall:([22,3].all fun u=>!Tryz.prog.wantsStandIn u)=true:=by kernel_rfl
 exact(show Tryz.prog.wantsStandIn t=false by simpa using List.all_eq_true.1 hall t hm)
theorem topTyped_card:Rows.TopTypedCardSaid:=
 Claim7.holds_tied_plain_at .later [] _ _ _ _ As1 (fun _ h=>by cases h) (by kernel_rfl) (fun _ h=>by cases h) topTyped_row_tie rfl ⟨rfl,rfl⟩ (by kernel_rfl) rfl Ar3 (by kernel_rfl)
end
end Go.Proofs.YtmmnimagbnlcmaaGreatDoor
