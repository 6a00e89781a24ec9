/- Texts of this claim, merged: Env Env4 Cli5 Cli6 Cli7 Cli8 Cli10 Key Key2 Cli12 Cli13 Drw1 Sgr. -/
import Derived.Test.YtmmnimagbnlcmaaGreatDoorTd12
import Derived.WalkKit
import Derived.WalkSpells
import Derived.WalkLawsBesides
import Derived.Handy
import Derived.Lib.Hide
import Derived.Laws.BitsAllLaws
import Derived.Deep.MidRow
import Derived.Deep.WholeRow
import Derived.BigQuiet
import Derived.Laws.CopyOwn
import Derived.Deep.QuietTactic
import Derived.Laws.AppendOwnNone
import Derived.Laws.MakeOwn
import Derived.Laws.IdiomStrings
import Derived.OrdersHeld
import Derived.Lib.SliceRun
import Derived.ChangeKeysEq
import Derived.Laws.CopyRow
import Derived.Lib.Replace
import Derived.Test.YtmmnimagbnlcmaaGreatDoorRows
import Derived.Lib.AppendStr
import Derived.ArgAppend
import Derived.Lib.Join
import Derived.Lib.IndexLaws
import Derived.Shelf.Strings.Builder1
import Derived.Shelf.Strings.Builder2
import Derived.Shelf.Strings.OnBuilder
import Derived.Shelf.Strings.Trim
import Derived.Shelf.Small.Utf8
import Derived.Shelf.Small.Strs
import Derived.Shelf.Strings.BuilderF
import Derived.Shelf.Strconv.Itoa0
import Derived.Shelf.Strconv.Itoa1
import Derived.Shelf.LaysM
import Derived.Shelf.Strconv.Itoa2
import Derived.Shelf.Strconv.Itoa3
import Derived.Shelf.Strings.Search1
import Derived.Shelf.Strings.Search2
import Derived.Shelf.Strings.Search3
import Derived.Shelf.Strings.Count
import Derived.Shelf.Strings.Shaped
import Derived.Shelf.Strings.LastIndex
import Derived.Shelf.Strings.Prefix
import Derived.Shelf.Strings.Split
import Derived.Shelf.Strings.Replace
import Derived.Shelf.Strings.SplitShaped
import Derived.Shelf.Strings.Runes
import Derived.Shelf.Strings.AsciiSet
import Derived.Shelf.Bits.Mul64
import Derived.Shelf.Strings.Repeat
import Derived.Shelf.Unicode.DecodeSlow
import Derived.Shelf.Unicode.DecodeAny
import Derived.Shelf.Unicode.ValidAny
import Derived.Test.YtmmnimagbnlcmaaGreatDoorProg
import Derived.StillTailTactics
import Derived.RegionTactic
import Derived.ChangeAlike
import Derived.Laws.RangeAny
import Derived.Maps.RangeRun
import Derived.Lib.IndexMore
import Derived.Lib.SplitLaws
import Derived.Lib.Bytealg
import Derived.Lib.Repeat
import Derived.Lib.DecodeN
import Derived.Lib.ItoaNum
namespace Go.Proofs.YtmmnimagbnlcmaaGreatDoor
open Go Go.RowKit Go.Fw Go.Sx
set_option maxRecDepth 100000
section
set_option maxHeartbeats 1000000
attribute [local irreducible] SW SL SQ AtQ SV SC BB LD PK Yields SO SOT SOA SY
theorem Bh8 (L:List Int) (i:Nat) (h:i<L.length):escI (L.take (i+1))=escI (L.take i)++(if L.getD i 0≤3 then [2,L.getD i 0] else [L.getD i 0]):=by
  rw[List.take_succ_eq_append_getElem h,Bo7,List.getD_eq_getElem?_getD,List.getElem?_eq_getElem h]
  simp [escI]
theorem Bb3 (G:Ctx) (H:List Ent) (X:List Int) (s:ByteArray) {vs:List Value} (a:Option Addr) (n c:Nat) (hv:vs=octs X) (hn:n=X.length) (hm:n≤1000000) (hs:s.size≤1000000):SC Tryz.prog G 91 [.slice a n c,.string s] (.own 5 1 a n c vs::H) (fun v H'=>∃a' c',v= .slice a' (X++escI (nums s)).length c'∧H'= .own 5 1 a' (X++escI (nums s)).length c' (octs (X++escI (nums s)))::H):=by
  subst hv hn
  refine J3 Tryz.func91 rfl rfl rfl rfl rfl ?_
  repeat' (first|(apply F3;first|(apply C8;refine A8 ?_)|(apply C9;refine D8 rfl rfl ?_)|(apply D6;refine D9 rfl rfl ?_)|(apply J5;refine s_call (Q3 rfl rfl) rfl ?_))|(apply D7)|(apply F6)|(apply A7)|(apply D5))
  refine R9 (α:=Nat×Option Addr×Nat) (fun g=>[(0,.slice g.2.1 (X++escI ((nums s).take g.1)).length g.2.2),(1,.string s),(7,.int .i64 s.size),(8,.int .i64 g.1)])
    (fun g=> .own 5 1 g.2.1 (X++escI ((nums s).take g.1)).length g.2.2 (octs (X++escI ((nums s).take g.1)))::H)
    (fun g=>g.1≤s.size) (fun g=>s.size-g.1) (0,a,c) (Nat.zero_le _) (by simp only[List.take_zero,escI,List.flatMap_nil,List.append_nil];exact(by repeat (first|exact Le.nil _|refine Le.cons (by (rfl)) ?_))) (by simp only[List.take_zero,escI,List.flatMap_nil,List.append_nil];exact I8) ?_
  rintro ⟨i,ao,co⟩ hi
  dsimp only at hi ⊢
  by_cases hlt:(i:Int)<s.size
  · have b1:=B09 s i
    have hxd:(nums s).getD (i:Int).toNat 0=(nums s).getD i 0:=rfl
    have htk:=Bh8 (nums s) i (by rw[nums_length];omega)
    have hel:(escI ((nums s).take i)).length≤2 * i:=by have:=AS8 ((nums s).take i);rw[List.length_take] at this;omega
    have hbl:(X++escI ((nums s).take i)).length≤3000000:=by rw[List.length_append];omega
    generalize escI ((nums s).take i)=E at *
    generalize (nums s).getD i 0=x at *
    have Htk:=Lib.hid htk
    have Hxd:=Lib.hid hxd
    clear htk hxd
    repeat' (first|(apply F3;first|(apply C8;refine A8 ?_)|(apply C9;refine D8 rfl rfl ?_)|(apply E5;refine F5 rfl rfl rfl ?_;first|(apply M0;refine L9 ⟨by omega,by omega⟩ ?_)|refine F7 rfl ?_)|(apply D6;refine D9 rfl rfl ?_)|(apply U8;refine W9 (Z5 Hxd.out rfl rfl rfl (by omega) (by omega)) rfl ?_)|(apply J5;refine R6 rfl rfl rfl rfl (by (rfl)) (by (rfl)) (by omega) rfl rfl (fun _ _=>?_))|(apply V8;refine M7 rfl rfl rfl rfl rfl rfl rfl rfl rfl rfl (fun _=>?_)))|(apply D7)|(apply G9)|(apply F6)|(apply A7)|(refine G5 rfl ?_;apply E9<;>intro hq<;>(try (exfalso;omega)))|(apply D5)|(apply J2))
    · rename_i bx1 a1 c1 bx ax cx
      have e:escI ((nums s).take (i+1))=E++[2,x]:=by rw[Htk.out,if_pos (by omega)]
      refine J6 (i+1,ax,cx) ⟨by dsimp only;omega,by dsimp only;omega⟩ ?_ ?_
      · dsimp only
        rw[e,show (X++(E++[2,x])).length=(X++E).length+1+1 from by simp;omega]
        exact(by repeat (first|exact Le.nil _|refine Le.cons (by (rfl)) ?_))
      · dsimp only
        rw[e,show (X++(E++[2,x])).length=(X++E).length+1+1 from by simp;omega,show octs (X++(E++[2,x]))=octs (X++E)++[.int .u8 2]++[.int .u8 x] from by simp [octs]]
        exact I8
    · rename_i bx ax cx
      have e:escI ((nums s).take (i+1))=E++[x]:=by rw[Htk.out,if_neg (by omega)]
      refine J6 (i+1,ax,cx) ⟨by dsimp only;omega,by dsimp only;omega⟩ ?_ ?_
      · dsimp only
        rw[e,show (X++(E++[x])).length=(X++E).length+1 from by simp;omega]
        exact(by repeat (first|exact Le.nil _|refine Le.cons (by (rfl)) ?_))
      · dsimp only
        rw[e,show (X++(E++[x])).length=(X++E).length+1 from by simp;omega,show octs (X++(E++[x]))=octs (X++E)++[.int .u8 x] from by simp [octs]]
        exact I8
  · obtain rfl:i=s.size:=by omega
    rw[show (nums s).take s.size=nums s from by rw[←nums_length];exact List.take_length]
    repeat' (first|(apply F3;first|(apply C8;refine A8 ?_)|(apply C9;refine D8 rfl rfl ?_)|(apply E5;refine F5 rfl rfl rfl ?_;refine F7 rfl ?_)|(apply D6;refine D9 rfl rfl ?_))|(apply D7)|(apply H7)|(apply N8)|(apply A7)|(refine G5 rfl ?_;apply E9<;>intro hq<;>(try (exfalso;omega)))|(apply D5)|(apply J7)|(apply J8))
    exact AG7 _ (.inr rfl) rfl (List.Sublist.refl _) ⟨_,_,rfl,rfl⟩
theorem A72 (G:Ctx) (H:List Ent) (v:Vr):SV Tryz.prog G 90 [vrV v] H (.bool (decide (200<v.1.size)||decide (200<v.2.1.size))):=by
  obtain⟨nm,vl,u,st⟩:=v
  show SV Tryz.prog G _ [.agg [.string nm,.string vl,.bool u,.bool st].toArray] H (.bool (decide (200<nm.size)||decide (200<vl.size)))
  refine M5 Tryz.func90 rfl rfl rfl rfl rfl ?_
  repeat' (first|(apply F3;first|(apply C8;refine A8 ?_)|(apply C9;refine D8 rfl rfl ?_)|(apply E5;refine F5 rfl rfl rfl ?_;refine F7 rfl ?_)|(apply F4;refine F8 rfl rfl ?_;refine G6 rfl ?_)|(apply D6;refine D9 rfl rfl ?_)|(apply I6;refine I9 rfl rfl ?_;first|(apply Q9;refine Q8 rfl ?_)|(apply O1;refine O3 rfl ?_))|(apply G7;refine G8 (E8 rfl rfl) rfl ?_)|(apply J5;refine s_call (Q3 rfl rfl) rfl ?_)|(apply K9;refine O5 rfl rfl rfl rfl rfl rfl (fun _=>?_))|(apply I1;refine J9 rfl rfl rfl rfl ?_;first|(apply I7)|(apply X9)|(apply O8<;>intro hq<;>(try (exfalso;omega)))))|(apply D7)|(apply H7)|(apply A7)|(apply D5))
  all_goals first
    | (have h1:decide (200<nm.size)=true:=(decide_eq_true (by omega));refine M3 (by first|exact .inl rfl|exact .inr rfl) rfl N7 ?_;rw[h1];rfl)
    | (have h1:decide (200<nm.size)=false:=(decide_eq_false (by omega));refine M3 (by (exact .inr rfl)) rfl N7 ?_;rw[h1,Bool.false_or];exact congrArg Value.bool (decide_eq_decide.2 (by omega)))
theorem AN6 (Y:List Int) (k:Int):octs Y++[.int .u8 k]=octs (Y++[k]):=by simp [octs]
theorem Ao7 (G:Ctx) (H:List Ent) (L:List Vr) {vs:List Value} (a:Option Addr) (n c:Nat) [h1:RdC G H a vs] (hv:vs=vrs L) (hn:n=L.length) (hm:n≤maxLen) (hl:AI3 L):SV Tryz.prog G 49 [.slice a n c] H (.tuple #[.string ⟨#[]⟩,.int .i64 2]):=by
  have cH:=An2 G H 90 [] (fun v=>decide (200<v.1.size)||decide (200<v.2.1.size)) L a n c hv hn (by rw[←hn];exact hm) (fun v _=>A72 G H v)
  unfold AI3 at hl
  have hm':n≤9223372036854775807:=hm
  rw[←hn] at hl
  generalize (L.any fun v=>decide (200<v.1.size)||decide (200<v.2.1.size))=q at *
  have Hl:=Lib.hid hl
  clear hl hn hv hm
  refine M5 Tryz.func49 rfl rfl rfl rfl rfl ?_
  repeat' (first|(apply F3;first|(apply C8;refine A8 ?_)|(apply C9;refine D8 rfl rfl ?_)|(apply E5;refine F5 rfl rfl rfl ?_;refine F7 rfl ?_)|(apply D6;refine D9 rfl rfl ?_)|(apply I6;refine I9 rfl rfl ?_;first|(apply Q9;refine Q8 rfl ?_)|(apply O1;refine O3 rfl ?_))|(apply H6;refine F9 rfl rfl rfl (cH) rfl rfl ?_)|(apply J5;refine s_call (Q5 rfl rfl) rfl ?_)|(apply I1;refine J9 rfl rfl rfl rfl ?_;first|(apply I7)|(apply X9)|(apply O8<;>intro hq<;>(try (exfalso;omega)))))|(apply D7)|(apply G9)|(apply H7)|((fail_if_success (refine K3 (id:=3) ?_));apply A7)|(refine G5 rfl ?_;first|(apply I7)|(apply Ai9<;>intro hq))|(apply D5)|(apply J4))
  all_goals (first|(refine M3 (by (first|exact .inl rfl|exact .inr rfl)) rfl N7 ?_;rfl)|(exfalso;rcases Hl.out with h|h;omega;rw[h] at hq;cases hq))
theorem A91 (G:Ctx) (H:List Ent) (L:List Vr) {vs:List Value} (a:Option Addr) (n c:Nat) [h1:RdC G H a vs] (hv:vs=vrs L) (hn:n=L.length) (hl:¬AI3 L):SV Tryz.prog G 49 [.slice a n c] H (.tuple #[.string (q9 L).1,.int .i64 (q9 L).2]):=by
  have cH:=An2 G H 90 [] (fun v=>decide (200<v.1.size)||decide (200<v.2.1.size)) L a n c hv hn (by unfold AI3 at hl;unfold maxLen;omega) (fun v _=>A72 G H v)
  have hn20:n≤20:=by unfold AI3 at hl;omega
  have hany:(L.any fun v=>decide (200<v.1.size)||decide (200<v.2.1.size))=false:=by
    rw[←Bool.not_eq_true];exact fun h=>hl (.inr h)
  have hsz:∀v∈L,v.1.size≤200∧v.2.1.size≤200:=fun v hv=>by
    refine Classical.byContradiction fun hb=>?_
    rw[List.any_eq_true.2 ⟨v,hv,by simp;omega⟩] at hany
    cases hany
  rw[hany] at cH
  have hform:=fun h=>A93 hl h
  have hok:=fun h=>Ba6 hl h
  have hlx:vs.length=n * 4:=by rw[hv,Br3,hn]
  have hel:∀(k:Nat) x,L[k]? =some x→take? (vs.drop ((k:Int).toNat * 4)) 4=some (vrC x):=fun k x hx=>by subst hv;exact AX0 hx
  have hvl:∀i,i≤n→(varsI (L.take i)).length≤i * 1000:=fun i=>by
    induction i with
    | zero=>intro _;simp [varsI]
    | succ i ih=>
      intro hi
      obtain⟨x,hx⟩:=AA3 (X:=L) (k:=i) (by omega)
      have h2:=hsz x (List.mem_of_getElem? hx)
      rw[Au6 hx,Ak9,List.length_append]
      have h3:=ih (by omega)
      have h4:(vI x).length≤1000:=by
        unfold vI
        have h5:=AS8 (nums x.1)
        have h6:=AS8 (nums x.2.1)
        rw[nums_length] at h5 h6
        repeat' split
        all_goals simp only[List.length_cons,List.length_append,List.length_nil]
        all_goals omega
      omega
  have cE:=fun (H:List Ent) (X:List Int) (s:ByteArray) (vs:List Value) (a:Option Addr) (n c:Nat) (hv:vs=octs X) (hn:n=X.length) (hm:n≤1000000) (hs:s.size≤1000000)=>Bb3 G H X s a n c hv hn hm hs
  have Hn:=Lib.hid hn
  have Hel:=Lib.hid hel
  have Hsz:=Lib.hid hsz
  have Hvl:=Lib.hid hvl
  have Hform:=Lib.hid hform
  have Hok:=Lib.hid hok
  clear hel hv hn hsz hvl hform hok hl hany
  refine M5 Tryz.func49 rfl rfl rfl rfl rfl ?_
  repeat' (first|(apply F3;first|(apply C8;refine A8 ?_)|(apply C9;refine D8 rfl rfl ?_)|(apply E5;refine F5 rfl rfl rfl ?_;refine F7 rfl ?_)|(apply D6;refine D9 rfl rfl ?_)|(apply I6;refine I9 rfl rfl ?_;apply O1;refine O3 rfl ?_)|(apply H6;refine F9 rfl rfl rfl (cH) rfl rfl ?_)|(apply J5;refine s_call (Q5 rfl rfl) rfl ?_)|(apply I1;refine J9 rfl rfl rfl rfl ?_;first|(apply I7)|(apply O8<;>intro hq<;>(try (exfalso;omega)))))|(apply D7)|(apply G9)|(apply F6)|(apply A7)|(refine G5 rfl ?_;apply I5)|(apply D5))
  all_goals (skip)
  refine R9 (α:=Nat×Option Addr×Nat) (fun g=>[(4,.slice g.2.1 (varsI (L.take g.1)).length g.2.2),(15,.slice a n c),(16,.int .i64 n),(17,.int .i64 g.1)])
    (fun g=> .own 5 1 g.2.1 (varsI (L.take g.1)).length g.2.2 (octs (varsI (L.take g.1)))::H)
    (fun g=>g.1≤n∧∀v∈L.take g.1,formV v=false) (fun g=>n-g.1) (0,none,0) ⟨Nat.zero_le _,fun v hv=>by simp at hv⟩ (by repeat (first|exact Le.nil _|refine Le.cons (by (rfl)) ?_)) (fun _ hw=>(hw.nilrow _ _).subs (by repeat (first|refine Subs.cons (by repeat constructor) ?_ |exact Subs.sub N7))) ?_
  rintro ⟨i,ao,co⟩ ⟨hi,hf⟩
  dsimp only at hi hf ⊢
  have Hf:=Lib.hid hf
  clear hf
  by_cases hlt:(i:Int)<n
  · obtain⟨x,hx⟩:=AA3 (X:=L) (k:=i) (by rw[←Hn.out];omega)
    have hxi:=Hel.out i x hx
    obtain⟨hs1,hs2⟩:=Hsz.out x (List.mem_of_getElem? hx)
    have hbl:=Hvl.out i hi
    have htk:varsI (L.take (i+1))=varsI (L.take i)++vI x:=by rw[Au6 hx,Ak9]
    have hfx:formV x=true→L.any formV=true:=fun h=>List.any_eq_true.2 ⟨x,List.mem_of_getElem? hx,h⟩
    have hfn:formV x=false→∀v∈L.take (i+1),formV v=false:=fun h=>A14 hx h Hf.out
    obtain⟨nm,vl,u,st⟩:=x
    have hxi':take? (vs.drop ((i:Int).toNat * 4)) 4=some [.string nm,.string vl,.bool u,.bool st]:=hxi
    have e1:=AS8 (nums nm)
    have e2:=AS8 (nums vl)
    rw[nums_length] at e1 e2
    dsimp only at hs1 hs2
    generalize varsI (L.take i)=Y at *
    have Htk:=Lib.hid htk
    have Hfx:=Lib.hid hfx
    have Hfn:=Lib.hid hfn
    clear hxi hx htk hfx hfn
    cases u<;>cases st
    all_goals
      repeat' (first|(apply F3;first|(apply C8;refine A8 ?_)|(apply C9;refine D8 rfl rfl ?_)|(apply E5;refine F5 rfl rfl rfl ?_;first|(refine AI0 ?_)|(refine F7 rfl ?_))|(apply F4;first|(refine F8 rfl rfl ?_;refine G6 rfl ?_)|(refine F8 rfl rfl ?_;refine Y5 hxi' rfl ?_))|(apply D6;refine D9 rfl rfl ?_)|(apply I6;refine I9 rfl rfl ?_;first|(apply Q9;refine Q8 rfl ?_)|(apply O1;refine O3 rfl ?_))|(apply G7;refine G8 (E8 rfl rfl) rfl ?_)|(apply Y0;refine Z8 (Z7 rfl rfl rfl) rfl ?_)|(apply M4;refine N9 (K6 rfl rfl rfl hlx (by omega) (by omega)) rfl ?_)|(apply H9;refine M6 rfl rfl rfl rfl rfl rfl rfl rfl ?_)|(apply L6;refine O0 rfl rfl rfl rfl (fun _=>?_))|(apply I1;refine J9 rfl rfl rfl rfl ?_;first|(apply I7)|(apply I5)))|(apply D7)|(apply G9)|(apply H7)|(apply F6)|((fail_if_success (refine K3 (id:=12) ?_));apply A7)|(refine G5 rfl ?_;first|(apply I7)|(apply I5)|(apply E9<;>intro hq<;>(try (exfalso;omega)))|(apply AF0<;>intro hq))|(apply D5)|(apply J4)|(apply U1))
    all_goals first
      | (have hfe:=Hfx.out (show formV _=true from by simp [formV];exact of_decide_eq_false hq)
         refine M3 (by (exact .inr rfl)) rfl N7 ?_
         rw[Hform.out hfe];rfl)
      | skip
    · have hfn':=Hfn.out (by simp [formV];exact of_decide_eq_true hq)
      rename_i b
      refine V3 (.blk b 142 [.string nm,.string vl,.bool false,.bool false]::H) I8 ?_
      repeat' (first|(apply F3;first|(apply C8;refine A8 ?_)|(apply C9;refine D8 rfl rfl ?_)|(apply E5;refine F5 rfl rfl rfl ?_;apply M0;refine L9 ⟨by omega,by omega⟩ ?_)|(apply F4;refine F8 rfl rfl ?_;refine G6 rfl ?_)|(apply G7;refine G8 (E8 rfl rfl) rfl ?_)|(apply H6;refine c_call rfl rfl rfl (cE _ _ _ _ _ _ _ (AN6 _ _) (by simp only[List.length_append,List.length_cons,List.length_nil]<;>omega) (by omega) (by omega)) rfl rfl ?_;rintro _ _ ⟨a2,c2,rfl,rfl⟩)|(apply J5;refine R6 rfl rfl rfl rfl (by (rfl)) (by (rfl)) (by omega) rfl rfl (fun _ _=>?_))|(apply V8;refine M7 rfl rfl rfl rfl rfl rfl rfl rfl rfl rfl (fun _=>?_)))|(apply U4;refine R5 (k:=0) I8 ?_)|(apply V6;first|(refine O9 rfl ?_)|(refine P8 rfl rfl rfl rfl (by kernel_rfl) (by decide+kernel) (by decide+kernel) ?_;first|(apply U5;refine I4 (V4 rfl rfl) ?_)|(apply U9;refine U6 rfl ?_;refine G6 rfl ?_)|(apply Z0;refine I4 (X7 rfl rfl) ?_)|(apply Q0;refine I4 (E8 rfl rfl) ?_))|(refine P9 rfl ?_)|(refine R4 (by decide+kernel) ?_)|(refine S9 (by kernel_rfl) ?_))|(apply X4;first|(refine T9 rfl)|(refine U7 (by decide+kernel) ?_)|(refine U0 rfl ?_ ?_))|(apply D7)|(apply G9)|(apply A7)|(refine G5 rfl ?_;apply I5)|(apply D5)|(apply J2))
      have he:varsI (L.take (i+1))=(Y++[0])++escI (nums nm):=by rw[Htk.out];simp [vI]
      refine J6 (i+1,a2,c2) ⟨⟨by dsimp only;omega,hfn'⟩,by dsimp only;omega⟩ ?_ ?_
      · dsimp only;rw[he];exact(by repeat (first|exact Le.nil _|refine Le.cons (by (rfl)) ?_))
      · dsimp only;rw[he];exact I8
    · have hfn':=Hfn.out (by simp [formV])
      rename_i b
      refine V3 (.blk b 142 [.string nm,.string vl,.bool false,.bool true]::H) I8 ?_
      repeat' (first|(apply F3;first|(apply C8;refine A8 ?_)|(apply F4;refine F8 rfl rfl ?_;refine G6 rfl ?_)|(apply G7;refine G8 (E8 rfl rfl) rfl ?_)|(apply H6;refine c_call rfl rfl rfl (cE _ _ _ _ _ _ _ (AN6 _ _) (by simp only[List.length_append,List.length_cons,List.length_nil]<;>omega) (by (omega)) (by omega)) rfl rfl ?_;rintro _ _ ⟨a2,c2,rfl,rfl⟩)|(apply J5;refine R6 rfl rfl rfl rfl (by (rfl)) (by (rfl)) (by omega) rfl rfl (fun _ _=>?_))|(apply V8;refine M7 rfl rfl rfl rfl rfl rfl rfl rfl rfl rfl (fun _=>?_)))|(apply U4;refine R5 (k:=0) I8 ?_)|(apply V6;first|(refine O9 rfl ?_)|(refine P8 rfl rfl rfl rfl (by kernel_rfl) (by decide+kernel) (by decide+kernel) ?_;first|(apply U5;refine I4 (V4 rfl rfl) ?_)|(apply U9;refine U6 rfl ?_;refine G6 rfl ?_)|(apply Z0;refine I4 (X7 rfl rfl) ?_)|(apply Q0;refine I4 (E8 rfl rfl) ?_))|(refine P9 rfl ?_)|(refine R4 (by decide+kernel) ?_)|(refine S9 (by kernel_rfl) ?_))|(apply X4;first|(refine T9 rfl)|(refine U7 (by decide+kernel) ?_)|(refine U0 rfl ?_ ?_))|(apply D7)|((fail_if_success (refine K3 (id:=14) ?_));apply A7)|(refine G5 rfl ?_;apply I7)|(apply D5))
      refine V3 (.blk b 142 [.string nm,.string vl,.bool false,.bool true]::H) I8 ?_
      repeat' (first|(apply F3;first|(apply C8;refine A8 ?_)|(apply C9;refine D8 rfl rfl ?_)|(apply E5;refine F5 rfl rfl rfl ?_;apply M0;refine L9 ⟨by omega,by omega⟩ ?_)|(apply H6;refine c_call rfl rfl rfl (cE _ _ _ _ _ _ _ (AN6 _ _) (by simp only[List.length_append,List.length_cons,List.length_nil]<;>omega) (by (simp only[List.length_append,List.length_cons,List.length_nil];omega)) (by omega)) rfl rfl ?_;rintro _ _ ⟨a2,c2,rfl,rfl⟩)|(apply J5;refine R6 rfl rfl rfl rfl rfl rfl (by simp only[List.length_append,List.length_cons,List.length_nil];omega) rfl rfl (fun _ _=>?_))|(apply V8;refine M7 rfl rfl rfl rfl rfl rfl rfl rfl rfl rfl (fun _=>?_)))|(apply U4;refine R5 (k:=0) I8 ?_)|(apply V6;first|(refine O9 rfl ?_)|(refine P8 rfl rfl rfl rfl (by kernel_rfl) (by decide+kernel) (by decide+kernel) ?_;first|(apply U5;refine I4 (V4 rfl rfl) ?_)|(apply U9;refine U6 rfl ?_;refine G6 rfl ?_)|(apply Z0;refine I4 (X7 rfl rfl) ?_)|(apply Q0;refine I4 (E8 rfl rfl) ?_))|(refine P9 rfl ?_)|(refine R4 (by decide+kernel) ?_)|(refine S9 (by kernel_rfl) ?_))|(apply X4;first|(refine T9 rfl)|(refine U7 (by decide+kernel) ?_)|(refine U0 rfl ?_ ?_))|(apply A7)|(apply D5)|(apply J2))
      have he:varsI (L.take (i+1))=(((Y++[0])++escI (nums nm))++[1])++escI (nums vl):=by rw[Htk.out];simp [vI]
      refine J6 (i+1,a2,c2) ⟨⟨by dsimp only;omega,hfn'⟩,by dsimp only;omega⟩ ?_ ?_
      · dsimp only;rw[he];exact(by repeat (first|exact Le.nil _|refine Le.cons (by (rfl)) ?_))
      · dsimp only;rw[he];exact I8
    · have hfn':=Hfn.out (by simp [formV];exact of_decide_eq_true hq)
      rename_i b
      refine V3 (.blk b 142 [.string nm,.string vl,.bool true,.bool false]::H) I8 ?_
      repeat' (first|(apply F3;first|(apply C8;refine A8 ?_)|(apply C9;refine D8 rfl rfl ?_)|(apply E5;refine F5 rfl rfl rfl ?_;apply M0;refine L9 ⟨by omega,by omega⟩ ?_)|(apply F4;refine F8 rfl rfl ?_;refine G6 rfl ?_)|(apply G7;refine G8 (E8 rfl rfl) rfl ?_)|(apply H6;refine c_call rfl rfl rfl (cE _ _ _ _ _ _ _ (AN6 _ _) (by simp only[List.length_append,List.length_cons,List.length_nil]<;>omega) (by omega) (by omega)) rfl rfl ?_;rintro _ _ ⟨a2,c2,rfl,rfl⟩)|(apply J5;refine R6 rfl rfl rfl rfl (by (rfl)) (by (rfl)) (by omega) rfl rfl (fun _ _=>?_))|(apply V8;refine M7 rfl rfl rfl rfl rfl rfl rfl rfl rfl rfl (fun _=>?_)))|(apply U4;refine R5 (k:=0) I8 ?_)|(apply V6;first|(refine O9 rfl ?_)|(refine P8 rfl rfl rfl rfl (by kernel_rfl) (by decide+kernel) (by decide+kernel) ?_;first|(apply U5;refine I4 (V4 rfl rfl) ?_)|(apply U9;refine U6 rfl ?_;refine G6 rfl ?_)|(apply Z0;refine I4 (X7 rfl rfl) ?_)|(apply Q0;refine I4 (E8 rfl rfl) ?_))|(refine P9 rfl ?_)|(refine R4 (by decide+kernel) ?_)|(refine S9 (by kernel_rfl) ?_))|(apply X4;first|(refine T9 rfl)|(refine U7 (by decide+kernel) ?_)|(refine U0 rfl ?_ ?_))|(apply D7)|(apply G9)|(apply A7)|(refine G5 rfl ?_;apply I5)|(apply D5)|(apply J2))
      have he:varsI (L.take (i+1))=(Y++[3])++escI (nums nm):=by rw[Htk.out];simp [vI]
      refine J6 (i+1,a2,c2) ⟨⟨by dsimp only;omega,hfn'⟩,by dsimp only;omega⟩ ?_ ?_
      · dsimp only;rw[he];exact(by repeat (first|exact Le.nil _|refine Le.cons (by (rfl)) ?_))
      · dsimp only;rw[he];exact I8
    · have hfn':=Hfn.out (by simp [formV])
      rename_i b
      refine V3 (.blk b 142 [.string nm,.string vl,.bool true,.bool true]::H) I8 ?_
      repeat' (first|(apply F3;first|(apply C8;refine A8 ?_)|(apply F4;refine F8 rfl rfl ?_;refine G6 rfl ?_)|(apply G7;refine G8 (E8 rfl rfl) rfl ?_)|(apply H6;refine c_call rfl rfl rfl (cE _ _ _ _ _ _ _ (AN6 _ _) (by simp only[List.length_append,List.length_cons,List.length_nil]<;>omega) (by (omega)) (by omega)) rfl rfl ?_;rintro _ _ ⟨a2,c2,rfl,rfl⟩)|(apply J5;refine R6 rfl rfl rfl rfl (by (rfl)) (by (rfl)) (by omega) rfl rfl (fun _ _=>?_))|(apply V8;refine M7 rfl rfl rfl rfl rfl rfl rfl rfl rfl rfl (fun _=>?_)))|(apply U4;refine R5 (k:=0) I8 ?_)|(apply V6;first|(refine O9 rfl ?_)|(refine P8 rfl rfl rfl rfl (by kernel_rfl) (by decide+kernel) (by decide+kernel) ?_;first|(apply U5;refine I4 (V4 rfl rfl) ?_)|(apply U9;refine U6 rfl ?_;refine G6 rfl ?_)|(apply Z0;refine I4 (X7 rfl rfl) ?_)|(apply Q0;refine I4 (E8 rfl rfl) ?_))|(refine P9 rfl ?_)|(refine R4 (by decide+kernel) ?_)|(refine S9 (by kernel_rfl) ?_))|(apply X4;first|(refine T9 rfl)|(refine U7 (by decide+kernel) ?_)|(refine U0 rfl ?_ ?_))|(apply D7)|((fail_if_success (refine K3 (id:=14) ?_));apply A7)|(refine G5 rfl ?_;apply I7)|(apply D5))
      refine V3 (.blk b 142 [.string nm,.string vl,.bool true,.bool true]::H) I8 ?_
      repeat' (first|(apply F3;first|(apply C8;refine A8 ?_)|(apply C9;refine D8 rfl rfl ?_)|(apply E5;refine F5 rfl rfl rfl ?_;apply M0;refine L9 ⟨by omega,by omega⟩ ?_)|(apply H6;refine c_call rfl rfl rfl (cE _ _ _ _ _ _ _ (AN6 _ _) (by simp only[List.length_append,List.length_cons,List.length_nil]<;>omega) (by (simp only[List.length_append,List.length_cons,List.length_nil];omega)) (by omega)) rfl rfl ?_;rintro _ _ ⟨a2,c2,rfl,rfl⟩)|(apply J5;refine R6 rfl rfl rfl rfl rfl rfl (by simp only[List.length_append,List.length_cons,List.length_nil];omega) rfl rfl (fun _ _=>?_))|(apply V8;refine M7 rfl rfl rfl rfl rfl rfl rfl rfl rfl rfl (fun _=>?_)))|(apply U4;refine R5 (k:=0) I8 ?_)|(apply V6;first|(refine O9 rfl ?_)|(refine P8 rfl rfl rfl rfl (by kernel_rfl) (by decide+kernel) (by decide+kernel) ?_;first|(apply U5;refine I4 (V4 rfl rfl) ?_)|(apply U9;refine U6 rfl ?_;refine G6 rfl ?_)|(apply Z0;refine I4 (X7 rfl rfl) ?_)|(apply Q0;refine I4 (E8 rfl rfl) ?_))|(refine P9 rfl ?_)|(refine R4 (by decide+kernel) ?_)|(refine S9 (by kernel_rfl) ?_))|(apply X4;first|(refine T9 rfl)|(refine U7 (by decide+kernel) ?_)|(refine U0 rfl ?_ ?_))|(apply A7)|(apply D5)|(apply J2))
      have he:varsI (L.take (i+1))=(((Y++[3])++escI (nums nm))++[1])++escI (nums vl):=by rw[Htk.out];simp [vI]
      refine J6 (i+1,a2,c2) ⟨⟨by dsimp only;omega,hfn'⟩,by dsimp only;omega⟩ ?_ ?_
      · dsimp only;rw[he];exact(by repeat (first|exact Le.nil _|refine Le.cons (by (rfl)) ?_))
      · dsimp only;rw[he];exact I8
  · obtain rfl:n=i:=by omega
    have hLt:L.take n=L:=by rw[Hn.out,List.take_length]
    rw[hLt] at Hf ⊢
    have hnf:L.any formV=false:=by
      rw[←Bool.not_eq_true,List.any_eq_true]
      rintro ⟨v,hv,h⟩
      exact Bool.noConfusion ((Hf.out v hv).symm.trans h)
    rw[Hok.out hnf]
    repeat' (first|(apply F3;first|(apply C8;refine A8 ?_)|(apply C9;refine D8 rfl rfl ?_)|(apply E5;refine F5 rfl rfl rfl ?_;refine F7 rfl ?_)|(apply D6;refine D9 rfl rfl ?_)|(apply p8;refine x9 (AO5 rfl rfl rfl rfl) rfl ?_))|(apply D7)|(apply H7)|(apply N8)|(apply A7)|(refine G5 rfl ?_;apply E9<;>intro hq<;>(try (exfalso;omega)))|(apply D5)|(apply J7)|(apply J8))
    refine M3 (by (exact .inr rfl)) rfl N7 ?_
    rfl
end
end Go.Proofs.YtmmnimagbnlcmaaGreatDoor
section
namespace Go.Fw
open Go Go.RowKit Go.Sx
end Go.Fw
namespace Go.Proofs.YtmmnimagbnlcmaaGreatDoor
open Go Go.RowKit Go.Fw Go.Sx
set_option maxRecDepth 100000
set_option maxHeartbeats 1000000
attribute [local irreducible] SW SL SQ AtQ SV SC BB LD PK Yields SO SOT SOA SY
theorem AP3 (G:Ctx) (H:List Ent) (L:List Vr) {vs:List Value} (a:Option Addr) (n c:Nat) [h1:RdC G H a vs] (hv:vs=vrs L) (hn:n=L.length) (hm:n≤maxLen):SV Tryz.prog G 49 [.slice a n c] H (.tuple #[.string (q9 L).1,.int .i64 (q9 L).2]):=by
  by_cases hl:AI3 L
  · rw[A46 hl];exact Ao7 G H L a n c hv hn hm hl
  · exact A91 G H L a n c hv hn hl
end Go.Proofs.YtmmnimagbnlcmaaGreatDoor
end
namespace Go.Proofs.YtmmnimagbnlcmaaGreatDoor
open Go Go.RowKit Go.Fw Go.Sx
set_option maxRecDepth 100000
section
set_option maxHeartbeats 2000000
attribute [local irreducible] SW SL SQ AtQ SV SC BB LD PK Yields SO SOT SOA SY negC
/-- The cells of a client, or of one and what was sent: nothing is under way in the wire, the bytes, the parser. -/
abbrev wkC (S N P K E:List Value):List Value:=big AD4 S (big [] N (big P K E))
abbrev cliX (buf:ByteArray) (ed:Bool):List Value:=[.int .u64 0,.int .u64 0,.int .u64 0,.int .u64 0,.string buf,.bool false,.bool ed]
theorem AJ2 {S N P K E:List Value} [hS:Len S 33] [hN:Len N 520] [hK:Len K 38] {p e k:Nat} (hP:P.length=p) (hE:E.length=e) (hk:12+(33+(520+(p+(38+e))))=k):(wkC S N P K E).length=k:=by
  unfold wkC big
  simp only[List.length_append,hS.here,hN.here,hK.here,hP,hE,List.length_nil]
  subst hk
  show 12+_=_
  omega
theorem Aw4:okP (0,0,.empty,.empty,.empty):=
  (BW1 _ _ _ _ _).2 ⟨⟨⟨by unfold pr3 pr2 pr1;decide+kernel,by decide,.inl rfl⟩,fun x hx=>by rw[show nums ByteArray.empty=[] from by decide+kernel] at hx;cases hx⟩,fun x hx=>by rw[show nums ByteArray.empty=[] from by decide+kernel] at hx;cases hx⟩
abbrev xterm:ByteArray:=⟨#[88,84,69,82,77]⟩
/-- A screen's cells, and where its rows can be read. -/
def ScS (G:Ctx) (E:List Ent) (s:Scr) (S:List Value):Prop:=∃(ga:Option Addr) (gn gc:Nat) (oa:Option Addr) (on oc:Nat) (pa:Option Addr) (pn pc:Nat) (X:List (Rx Qd)),S=scnC s ga gn gc oa on oc pa pn pc∧ScRd G E s ga gn gc oa on oc pa pn pc X
theorem ScS.len {G:Ctx} {E:List Ent} {s:Scr} {S:List Value} (h:ScS G E s S):S.length=33:=by
  obtain⟨ga,gn,gc,oa,on,oc,pa,pn,pc,X,rfl,-⟩:=h
  rfl
theorem ScS.one {G:Ctx} {E:List Ent} {s:Scr} {S:List Value} (h:ScS G E s S):S.all (·.oneCell')=true:=by
  obtain⟨ga,gn,gc,oa,on,oc,pa,pn,pc,X,rfl,-⟩:=h
  rfl
theorem ScS.mono {G:Ctx} {E E':List Ent} {s:Scr} {S:List Value} (h:ScS G E s S) (hh:∀w,Holds G E' w→Holds G E w):ScS G E' s S:=by
  obtain⟨ga,gn,gc,oa,on,oc,pa,pn,pc,X,rfl,h1⟩:=h
  exact⟨ga,gn,gc,oa,on,oc,pa,pn,pc,X,rfl,h1.mono hh⟩
/-- A client's rows. -/
def CliS (G:Ctx) (E:List Ent) (s:Scr) (S P:List Value):Prop:=ScS G E s S∧∃(na:Option Addr) (nc:Nat) (va:Option Addr) (vc:Nat),P=[.slice na 1 nc,.int .i64 0,.slice va 0 vc]∧RdC G E na (strs [xterm])∧CapC G E na 1 nc∧RdC G E va (vrs [])
theorem CliS.mono {G:Ctx} {E E':List Ent} {s:Scr} {S P:List Value} (h:CliS G E s S P) (hh:∀w,Holds G E' w→Holds G E w):CliS G E' s S P:=by
  obtain⟨h1,na,nc,va,vc,rfl,h2,h3,h4⟩:=h
  exact⟨h1.mono hh,na,nc,va,vc,rfl,⟨fun w hw=>h2.here w (hh w hw)⟩,⟨fun w hw=>h3.here w (hh w hw)⟩,⟨fun w hw=>h4.here w (hh w hw)⟩⟩
theorem A37 (G:Ctx) (H:List Ent) (S N K:List Value) [hS:Len S 33] [hN:Len N 520] [hK:Len K 38] (na:Option Addr) (nn nc:Nat) (va:Option Addr) (vn vc:Nat) (buf:ByteArray) (ed:Bool) (hb:buf.size<1024) (M:Int) (hM:∀H w,Holds G H w→w.cell? ⟨2,0,none⟩=some (.int .i64 M))
    (cS:∀H':List Ent,(∀w,Holds G H' w→Holds G H w)→SV Tryz.prog G 36 [.agg S.toArray] H' (.int .i64 0))
    (cN:∀H':List Ent,SV Tryz.prog G 71 [.agg N.toArray] H' (.int .i64 0))
    (cA:∀H':List Ent,(∀w,Holds G H' w→Holds G H w)→SV Tryz.prog G 48 [.agg #[.slice na nn nc,.int .i64 0]] H' (.int .i64 0))
    (r:ByteArray) (cV:∀H':List Ent,(∀w,Holds G H' w→Holds G H w)→SV Tryz.prog G 49 [.slice va vn vc] H' (.tuple #[.string r,.int .i64 0]))
    (cK:∀H':List Ent,SV Tryz.prog G 72 [.agg K.toArray] H' (.int .i64 0)):
    SV Tryz.prog G 42 [.agg (wkC S N [.slice na nn nc,.int .i64 0,.slice va vn vc] K (cliX buf ed)).toArray] H (.int .i64 0):=by
  have cI:∀H':List Ent,SV Tryz.prog G 70 [wireV 0 0 0 .empty false] H' (.int .i64 0):=fun H'=>by
    have h:=AV2 G H' 0 0 0 .empty false
    rwa [show wireE 0 0 0 ByteArray.empty.size (ovI false)=0 from by decide+kernel] at h
  have cU:∀H':List Ent,SV Tryz.prog G 27 [.string .empty] H' (.int .i64 0):=fun H'=>by
    have h:=AU9 G H' .empty (by decide)
    rwa [show chkU (nums ByteArray.empty)=0 from by decide+kernel] at h
  have cP:∀H':List Ent,SV Tryz.prog G 54 [psV 0 0 .empty .empty .empty] H' (.int .i64 0):=fun H'=>by
    have h:=Ab5 G H' M hM 0 0 .empty .empty .empty (by decide) (by decide)
    rwa [(Aj0 0 0 .empty .empty .empty).2 Aw4] at h
  have cL:∀H':List Ent,SV Tryz.prog G 73 [.agg #[.string buf,.bool false]] H' (.int .i64 0):=fun H'=>by
    have h:=Ab7 G H' buf false
    rwa [if_neg (by omega)] at h
  have hlen:=AJ2 (S:=S) (N:=N) (K:=K) (P:=[.slice na nn nc,.int .i64 0,.slice va vn vc]) (E:=cliX buf ed) rfl rfl rfl
  refine M5 Tryz.func42 rfl rfl rfl rfl rfl ?_
  repeat' (first|(apply F3;first|(apply C8;refine A8 ?_)|(apply C9;refine D8 rfl rfl ?_)|(apply F4;refine F8 rfl rfl ?_;refine G6 (p9 rfl (p9 rfl (Af6 rfl))) ?_)|(apply D6;refine D9 rfl rfl ?_)|(apply G7;refine G8 (E8 rfl rfl) rfl ?_)|(apply Q6;refine U2 (K7 rfl rfl rfl) rfl ?_)|(apply H6;refine F9 rfl rfl rfl (cV _ I8) rfl rfl ?_)|(apply K9;refine O5 rfl rfl rfl rfl rfl rfl (fun _=>?_)))|(apply D7)|((fail_if_success (refine K3 (id:=2) ?_));apply A7)|(apply D5))
  refine j4 (α:=Unit) (fun _=>[(38,.agg #[.int .i64 0,.int .i64 0,.int .i64 0,.int .i64 0,.int .i64 0,.int .i64 0,.int .i64 0,.int .i64 0,.int .i64 0]),(39,.int .i64 0),(2,.int .i64 0)]) (fun _=>H) (fun _=>True) ?_ ?_
  · repeat' (first|(apply F3;first|(apply C8;refine A8 ?_)|(apply H6;first|refine F9 rfl rfl rfl (cI _) rfl rfl ?_ |refine F9 rfl rfl rfl (cU _) rfl rfl ?_ |refine F9 rfl rfl rfl (cP _) rfl rfl ?_ |refine F9 rfl rfl rfl (cS _ I8) rfl rfl ?_ |refine F9 rfl rfl rfl (cN _) rfl rfl ?_ |refine F9 rfl rfl rfl (cA _ I8) rfl rfl ?_ |refine F9 rfl rfl rfl (cK _) rfl rfl ?_ |refine F9 rfl rfl rfl (cL _) rfl rfl ?_))|(apply U4;refine R5 (k:=0) I8 ?_)|(apply V6;first|(refine O9 rfl ?_)|(refine P8 rfl rfl rfl rfl (by kernel_rfl) (by decide+kernel) (by decide+kernel) ?_;first|(apply U5;refine I4 (V4 rfl rfl) ?_)|(apply U9;first|(refine U6 rfl ?_;first|refine G6 rfl ?_ |refine L8 rfl rfl ?_)|(refine U6 rfl ?_;first|refine L8 (AG1 rfl) rfl ?_ |refine L8 (AB3 rfl) rfl ?_ |refine L8 (Z9 rfl (AB3 rfl)) rfl ?_ |refine L8 (Z9 rfl (Z9 rfl (AG1 rfl))) rfl ?_ |refine L8 (Z9 rfl (Z9 rfl (AB3 rfl))) rfl ?_ |refine L8 (Z9 rfl (Z9 rfl (Z9 rfl rfl))) rfl ?_))|(apply Q0;refine I4 (E8 rfl rfl) ?_)|(apply AH3;refine I4 (O6 rfl rfl rfl) ?_))|(refine P9 rfl ?_)|(refine R4 (by decide+kernel) ?_)|(refine S9 (by kernel_rfl) ?_))|(apply X4;first|(refine T9 rfl)|(refine U7 (by decide+kernel) ?_)|(refine U0 rfl ?_ ?_))|(refine K3 (id:=2) ?_;refine V3 _ (fun _ hw=>hw) ?_))
    all_goals exact J6 () trivial (by repeat (first|exact Le.nil _|refine Le.cons (by (rfl)) ?_)) I8
  rintro ⟨⟩-
  repeat' (apply F6)
  refine AF8 10 (AF9 ?_)
  repeat' (first|(apply F3;first|(apply C8;refine A8 ?_)|(apply C9;refine D8 rfl rfl ?_)|(apply E5;refine F5 rfl rfl rfl ?_;first|(apply M0;refine L9 ⟨by omega,by omega⟩ ?_)|refine F7 rfl ?_)|(apply D6;refine D9 rfl rfl ?_)|(apply U8;refine W9 (AK8 rfl rfl rfl (by omega) (by omega) rfl) rfl ?_))|(apply D7)|(apply AN0)|(apply G9)|(apply H7)|(apply N8)|(apply F6)|(apply A7)|(refine G5 rfl ?_;first|(apply I7)|(apply I5))|(apply D5)|(apply J7)|(apply J2)|(apply J8))
  all_goals (skip)
  all_goals (refine M3 (by (exact .inr rfl)) rfl N7 ?_;rfl)
theorem BB0 (G:Ctx) (H:List Ent) (s:Scr) (f:Fre s) (S P N K:List Value) [hN:Len N 520] [hK:Len K 38] (h:CliS G H s S P) (buf:ByteArray) (ed:Bool) (hb:buf.size<1024) (M:Int) (hM:∀H w,Holds G H w→w.cell? ⟨2,0,none⟩=some (.int .i64 M))
    (cN:∀H':List Ent,SV Tryz.prog G 71 [.agg N.toArray] H' (.int .i64 0)) (cK:∀H':List Ent,SV Tryz.prog G 72 [.agg K.toArray] H' (.int .i64 0)):
    SV Tryz.prog G 42 [.agg (wkC S N P K (cliX buf ed)).toArray] H (.int .i64 0):=by
  obtain⟨h1,na,nc,va,vc,rfl,h2,h3,h4⟩:=h
  haveI:Len S 33:=⟨h1.len⟩
  obtain⟨ga,gn,gc,oa,on,oc,pa,pn,pc,X,rfl,hg,ho,hp,hr,hX,hgn,hon,hpn,hgc,hoc⟩:=h1
  refine A37 G H _ N K na 1 nc va 0 vc buf ed hb M hM (fun H' hh=>?_) cN (fun H' hh=>?_) e0 (fun H' hh=>?_) cK
  · haveI:RdC G H' ga (qds s.C):=⟨fun w hw=>hg.here w (hh w hw)⟩
    haveI:RdC G H' oa (qds s.D):=⟨fun w hw=>ho.here w (hh w hw)⟩
    haveI:RdC G H' pa (X.map rxV):=⟨fun w hw=>hp.here w (hh w hw)⟩
    exact AI7 G H' s f X ga gn gc oa on oc pa pn pc hgn hgc hon hoc hpn hX (hr.mono hh)
  · haveI:RdC G H' na (strs [xterm]):=⟨fun w hw=>h2.here w (hh w hw)⟩
    haveI:CapC G H' na 1 nc:=⟨fun w hw=>h3.here w (hh w hw)⟩
    have h:=AL2 G H' [xterm] na 1 nc 0 rfl (fun x hx=>by rw[List.mem_singleton] at hx;subst hx;decide) (by decide)
    rwa [show AA6 [xterm] 0=0 from by decide+kernel] at h
  · haveI:RdC G H' va (vrs []):=⟨fun w hw=>h4.here w (hh w hw)⟩
    have h:=AP3 G H' [] va 0 vc rfl rfl (by decide)
    rwa [show q9 []=(e0,0) from by decide+kernel] at h
end
end Go.Proofs.YtmmnimagbnlcmaaGreatDoor
section
namespace Go.Sx
open Go Go.RowKit Go.Fw
theorem AM4 {a N c c':List Value} {off m:Nat} {v:Value} [hN:Len N m] (h2:Nat.ble (a.length+m) off=true) (h:c.set (off-(a.length+m)) v=c'):(big a N c).set off v=big a N c':=by
  have h2:=Nat.le_of_ble_eq_true h2
  have hN:=hN.here
  subst h
  unfold big
  rw[List.set_append_right _ _ (by omega),List.set_append_right _ _ (by omega),hN,Nat.sub_sub]
end Go.Sx
namespace Go.Proofs.YtmmnimagbnlcmaaGreatDoor
open Go Go.RowKit Go.Fw Go.Sx
set_option maxRecDepth 100000
set_option maxHeartbeats 2000000
attribute [local irreducible] SW SL SQ AtQ SV SC BB LD PK Yields SO SOT SOA SY negC
theorem Ac3 (G:Ctx) (H:List Ent) (s:Scr) (f:Fre s) (S:List Value) (h:ScS G H s S):
    SC Tryz.prog G 56 [.agg S.toArray] H fun v H'=>∃S' E,v= .agg S'.toArray∧H'=E++H∧ScS G E s S':=by
  obtain⟨ga,gn,gc,oa,on,oc,pa,pn,pc,X,rfl,hg,ho,hp,hr,hX,hgn,hon,hpn,hgc,hoc⟩:=h
  have h:=AP5 G H s f X ga gn gc oa on oc pa pn pc hgn hon hpn hX hr
  refine AI2 h fun v H'=>?_
  rintro ⟨gb,gc2,ob,oc2,pa2,pc2,Y,E,rfl,rfl,r1,r2,r3,r4⟩
  refine⟨_,.own 97 4 (some ⟨gb,0,none⟩) gn gc2 (qds s.C):: .own 119 1 pa2 Y.length pc2 (Y.map rxV)::(E++[.own 97 4 (some ⟨ob,0,none⟩) on oc2 (qds s.D)]),rfl,by simp,some ⟨gb,0,none⟩,gn,gc2,some ⟨ob,0,none⟩,on,oc2,pa2,Y.length,pc2,Y,rfl,?_⟩
  exact⟨inferInstance,⟨Rd.mem (e:=97) (size:=4) (n:=on) (c:=oc2) (by simp)⟩,inferInstance,r1.mono (fun w hw=>hw.sub (List.Sublist.cons _ (List.Sublist.cons _ (List.sublist_append_left E _)))),r2,hgn,hon,rfl,r3,r4⟩
theorem Ay6 (G:Ctx) (H:List Ent) (S N K:List Value) [hS:Len S 33] [hN:Len N 520] [hK:Len K 38] (na:Option Addr) (nn nc:Nat) (va:Option Addr) (vn vc:Nat) (buf:ByteArray) (ed:Bool) (l L:List Value) [h1:RdC G H na l] [h2:RdC G H va L]
    (hl:l.length=nn * 1) (hl1:l.all (·.oneCell')=true) (hL:L.length=vn * 4) (hL1:L.all (·.oneCell')=true) (hnn:nn≤100000000) (hvn:vn≤100000000) (R:List Value→List Ent→Prop) (hR:∀S' E,R S' E→S'.length=33∧S'.all (·.oneCell')=true) (hN1:N.all (·.oneCell')=true) (hK1:K.all (·.oneCell')=true) (hS1:S.all (·.oneCell')=true)
    (cS:∀H':List Ent,(∀w,Holds G H' w→Holds G H w)→SC Tryz.prog G 56 [.agg S.toArray] H' fun v H''=>∃S' E,v= .agg S'.toArray∧H''=E++H'∧R S' E):
    SC Tryz.prog G 43 [.agg (wkC S N [.slice na nn nc,.int .i64 0,.slice va vn vc] K (cliX buf ed)).toArray] H fun v H'=>∃S' E a1 c1 a2 c2,v= .agg (wkC S' N [.slice a1 nn c1,.int .i64 0,.slice a2 vn c2] K (cliX buf ed)).toArray∧R S' E∧
      H'= .own 142 4 a2 vn c2 L:: .own 9 1 a1 nn c1 l::(E++H):=by
  have cC1:=fun (H:List Ent) [RdC G H na l]=>AU7 G H na nn nc hl hl1 hnn
  have cC2:=fun (H:List Ent) [RdC G H va L]=>AU6 G H va vn vc hL hL1 hvn
  have hlen:=fun (S a b:List Value) (hS:Len S 33) (ha:a.length=3) (hb:b.length=7)=>AJ2 (S:=S) (N:=N) (K:=K) (P:=a) (E:=b) (k:=613) ha hb rfl
  have hone:∀(S a b:List Value),S.all (·.oneCell')=true→a.all (·.oneCell')=true→b.all (·.oneCell')=true→(wkC S N a K b).all (·.oneCell')=true:=fun S a b hS ha hb=>j3 rfl hS (j3 rfl hN1 (j3 ha hK1 hb))
  refine Y3 Tryz.func43 rfl rfl rfl rfl rfl ?_
  repeat' (first|(apply F3;first|(apply C8;refine A8 ?_)|(apply F4;refine F8 rfl rfl ?_;refine L8 (AB3 rfl) rfl ?_)|(apply G7;refine G8 (E8 rfl rfl) rfl ?_)|(apply H6;refine c_call rfl rfl rfl (cS _ I8) rfl rfl ?_;rintro _ _ ⟨S',E,rfl,rfl,hRS⟩)|(apply H9;(obtain⟨hS',hS1'⟩:=hR _ _ hRS;haveI:Len S' 33:=⟨hS'⟩;refine AE0 (off:=12) rfl rfl rfl rfl hS1' hS' (by rw[hlen _ _ _ hS rfl rfl];decide) (AH8 (m:=33) rfl hS') rfl ?_))|(apply K9;refine O5 rfl rfl rfl rfl rfl rfl (fun _=>?_))|(apply L6;refine O0 rfl rfl rfl rfl (fun _=>?_)))|(apply D7)|((fail_if_success (refine K3 (id:=2) ?_));apply A7)|(apply D5))
  rename_i b1 b2
  have hS':Len S' 33:=inferInstance
  have hS1':=(hR _ _ hRS).2
  refine j4 (α:=(Option Addr×Nat)×Option Addr×Nat) (fun _=>[(1,.pointer (some ⟨b1,0,none⟩)),(2,.pointer (some ⟨b2,0,none⟩))])
    (fun g=> .blk b1 56 (big AD4 S' (big [] N (big [.slice g.1.1 nn g.1.2,.int .i64 0,.slice g.2.1 vn g.2.2] K (cliX buf ed)))):: .own 142 4 g.2.1 vn g.2.2 L:: .own 9 1 g.1.1 nn g.1.2 l::(E++ .blk b2 56 cliZ::H)) (fun _=>True) ?_ ?_
  · repeat' (first|(apply F3;first|(apply C8;refine A8 ?_)|(apply F4;refine F8 rfl rfl ?_;refine G6 (p9 rfl (p9 rfl (Af6 rfl))) ?_)|(apply H6;first|(refine c_call rfl rfl rfl (cC1 _) rfl rfl ?_;rintro _ _ ⟨a1,c1,rfl,rfl⟩)|(refine c_call rfl rfl rfl (cC2 _) rfl rfl ?_;rintro _ _ ⟨a2,c2,rfl,rfl⟩))|(apply H9;refine AM5 rfl rfl rfl rfl rfl (AM4 rfl (AM4 rfl (BD3 rfl))) (by rw[hlen _ _ _ (by assumption) rfl rfl];decide) rfl ?_))|(apply U4;refine R5 (k:=0) I8 ?_)|(apply V6;first|(refine O9 rfl ?_)|(refine P8 rfl rfl rfl rfl (by kernel_rfl) (by decide+kernel) (by decide+kernel) ?_;apply Q0;first|refine I4 (E8 rfl rfl) ?_ |refine I4 (w9 rfl rfl) ?_)|(refine P9 rfl ?_)|(refine R4 (by decide+kernel) ?_)|(refine S9 (by kernel_rfl) ?_))|(apply X4;first|(refine T9 rfl)|(refine U7 (by decide+kernel) ?_)|(refine U0 rfl ?_ ?_))|(refine K3 (id:=2) ?_;refine AA9 (b:=b1) ?_))
    all_goals exact J6 ((a1,c1),a2,c2) trivial (by repeat (first|exact Le.nil _|refine Le.cons (by (rfl)) ?_)) I8
  rintro ⟨⟨a1,c1⟩,a2,c2⟩-
  have hz:cliZ.length=613:=by unfold cliZ;exact o9 (m:=520) (by rw[show (big [Value.slice none 0 0,.int .i64 0,.slice none 0 0] keyZ cliE).length=48 from o9 (m:=38) rfl];rfl)
  have hw:=hlen S' [.slice a1 nn c1,.int .i64 0,.slice a2 vn c2] (cliX buf ed) hS' rfl rfl
  have hw1:=hone S' [.slice a1 nn c1,.int .i64 0,.slice a2 vn c2] (cliX buf ed) hS1' rfl rfl
  repeat' (first|(apply F3;first|(apply C8;refine A8 ?_)|(apply F4;refine F8 rfl rfl ?_;refine K5 (by rw[hw];rfl) ?_)|(apply H9;refine r9 rfl rfl rfl rfl hw1 hw hz rfl ?_))|(apply D7)|(apply H7)|(apply A7)|(apply D5))
  refine d9 (.own 142 4 a2 vn c2 L:: .own 9 1 a1 nn c1 l::(E++H)) (.inr rfl) rfl hw rfl (fun _ hh=>hh.sub (List.Sublist.cons _ (List.Sublist.cons _ (List.Sublist.refl _)))) ?_
  exact⟨S',E,a1,c1,a2,c2,rfl,hRS,rfl⟩
theorem BA7 (G:Ctx) (H:List Ent) (s:Scr) (f:Fre s) (S P N K:List Value) [hN:Len N 520] [hK:Len K 38] (h:CliS G H s S P) (buf:ByteArray) (ed:Bool) (hN1:N.all (·.oneCell')=true) (hK1:K.all (·.oneCell')=true):
    SC Tryz.prog G 43 [.agg (wkC S N P K (cliX buf ed)).toArray] H fun v H'=>∃S' P' E,v= .agg (wkC S' N P' K (cliX buf ed)).toArray∧H'=E++H∧CliS G E s S' P':=by
  obtain⟨h1,na,nc,va,vc,rfl,h2,h3,h4⟩:=h
  haveI:Len S 33:=⟨h1.len⟩
  have h:=Ay6 G H S N K na 1 nc va 0 vc buf ed (strs [xterm]) (vrs []) rfl rfl rfl rfl (by decide) (by decide) (fun S' E=>ScS G E s S') (fun S' E hh=>⟨hh.len,hh.one⟩) hN1 hK1 h1.one (fun H' hh=>Ac3 G H' s f S (h1.mono hh))
  refine AI2 h fun v H'=>?_
  rintro ⟨S',E,a1,c1,a2,c2,rfl,hS,rfl⟩
  exact⟨S',_,.own 142 4 a2 0 c2 (vrs []):: .own 9 1 a1 1 c1 (strs [xterm])::E,rfl,rfl,hS.mono (fun w hw=>hw.sub (List.Sublist.cons _ (List.Sublist.cons _ (List.Sublist.refl E)))),a1,c1,a2,c2,rfl,inferInstance,inferInstance,inferInstance⟩
end Go.Proofs.YtmmnimagbnlcmaaGreatDoor
end
namespace Go.Proofs.YtmmnimagbnlcmaaGreatDoor
open Go Go.RowKit Go.Fw Go.Sx
set_option maxRecDepth 100000
section
set_option maxHeartbeats 2000000
attribute [local irreducible] SW SL SQ AtQ SV SC BB LD PK Yields SO SOT SOA SY negC
abbrev cliW (buf:ByteArray) (ed:Bool) (sent:ByteArray):List Value:=[.int .u64 0,.int .u64 0,.int .u64 0,.int .u64 0,.string buf,.bool false,.bool ed,.string sent]
theorem CG6 (G:Ctx) (H:List Ent) (wb:Nat) (S N P K E:List Value) [hS:Len S 33] [hN:Len N 520] [hb:HasBlk H wb 135 (wkC S N P K E)] (opt:Int) (ho:0≤opt∧opt≤255) (u:Int) (hu:N[opt.toNat]? =some (.int .u8 u)) (b:Bool) (hub:(u==1)=b):SV Tryz.prog G 80 [.pointer (some ⟨wb,0,none⟩),.int .i64 opt] H (.bool b):=by
  have hv:(wkC S N P K E)[45+opt.toNat * 1]? =some (.int .u8 u):=by
    refine p9 (m:=33) (Nat.ble_eq_true_of_le (by show 45≤_;omega)) ?_
    refine AO4 (Nat.zero_le _) ?_
    rw[show 45+opt.toNat * 1-(AD4.length+33)-([]:List Value).length=opt.toNat from by show 45+opt.toNat * 1-45-0=_;omega]
    exact hu
  generalize wkC S N P K E=cs at *
  refine P7 Tryz.func80 rfl rfl rfl rfl rfl ?_
  repeat' (first|(apply F3;first|(apply C8;refine A8 ?_)|(apply C9;refine D8 rfl rfl ?_)|(apply E5;refine F5 rfl rfl rfl ?_;refine F7 rfl ?_)|(apply F4;refine F8 rfl rfl ?_;refine G6 hv ?_)|(apply D6;refine D9 rfl rfl ?_)|(apply G7;first|refine G8 (E8 rfl rfl) rfl ?_ |refine G8 (w9 rfl rfl) rfl ?_)|(apply M4;refine N9 (AB7 rfl rfl rfl (by omega) (by omega)) rfl ?_)|(apply K8;refine M8 (H8 rfl rfl) rfl ?_))|(apply D7)|(apply H7)|(apply A7)|(apply D5))
  refine M3 (by (exact .inr rfl)) rfl N7 ?_
  exact congrArg Value.bool hub
theorem BY1 (G:Ctx) (H:List Ent) (wb:Nat) (S N P K E:List Value) [hS:Len S 33] [hN:Len N 520] [hb:HasBlk H wb 135 (wkC S N P K E)] (opt:Int) (ho:0≤opt∧opt≤255) (u:Int) (hu:N[256+opt.toNat]? =some (.int .u8 u)) (b:Bool) (hub:(u==1)=b):SV Tryz.prog G 134 [.pointer (some ⟨wb,0,none⟩),.int .i64 opt] H (.bool b):=by
  have hv:(wkC S N P K E)[301+opt.toNat * 1]? =some (.int .u8 u):=by
    refine p9 (m:=33) (Nat.ble_eq_true_of_le (by show 45≤_;omega)) ?_
    refine AO4 (Nat.zero_le _) ?_
    rw[show 301+opt.toNat * 1-(AD4.length+33)-([]:List Value).length=256+opt.toNat from by show 301+opt.toNat * 1-45-0=_;omega]
    exact hu
  generalize wkC S N P K E=cs at *
  refine P7 Tryz.func134 rfl rfl rfl rfl rfl ?_
  repeat' (first|(apply F3;first|(apply C8;refine A8 ?_)|(apply C9;refine D8 rfl rfl ?_)|(apply E5;refine F5 rfl rfl rfl ?_;refine F7 rfl ?_)|(apply F4;refine F8 rfl rfl ?_;refine G6 hv ?_)|(apply D6;refine D9 rfl rfl ?_)|(apply G7;first|refine G8 (E8 rfl rfl) rfl ?_ |refine G8 (w9 rfl rfl) rfl ?_)|(apply M4;refine N9 (AB7 rfl rfl rfl (by omega) (by omega)) rfl ?_)|(apply K8;refine M8 (H8 rfl rfl) rfl ?_))|(apply D7)|(apply H7)|(apply A7)|(apply D5))
  refine M3 (by (exact .inr rfl)) rfl N7 ?_
  exact congrArg Value.bool hub
theorem Bu7 (G:Ctx) (H:List Ent) (M:Int) (hM:∀H w,Holds G H w→w.cell? ⟨2,0,none⟩=some (.int .i64 M)) (wb:Nat) (S N:List Value) (p0 p1 p2:Value) (K:List Value) [hS:Len S 33] [hN:Len N 520] [hK:Len K 38] (buf:ByteArray) (ed:Bool) (sent:ByteArray) (u:Int) (hu:N[0]? =some (.int .u8 u)) (hub:(u==1)=false)
    (d d1 d2:ByteArray) (hd:d.size≤1048576) (h1:strOfNums (u8s (d.data.toList.flatMap outB))=d1) (hd1:d1.size≤4000000) (h2:escS d1=d2) (hz:sent.size≤4000000) (hz2:d2.size≤8000000):
    SC Tryz.prog G 78 [.pointer (some ⟨wb,0,none⟩),.string d] (.blk wb 135 (wkC S N [p0,p1,p2] K (cliW buf ed sent))::H) fun v H'=>v=resV []∧H'= .blk wb 135 (wkC S N [p0,p1,p2] K (cliW buf ed (sent++d2)))::H:=by
  have cU:=fun (H:List Ent) [HasBlk H wb 135 (wkC S N [p0,p1,p2] K (cliW buf ed sent))]=>CG6 G H wb S N [p0,p1,p2] K (cliW buf ed sent) 0 (by decide) u hu false hub
  have cO:=fun H=>Au0 G H d hd
  have cE:=fun H=>Ar1 G H M (hM H) d1 hd1
  rw[h1] at cO
  rw[h2] at cE
  have hlen:=AJ2 (S:=S) (N:=N) (K:=K) (P:=[p0,p1,p2]) (E:=cliW buf ed sent) (k:=614) rfl rfl rfl
  refine J3 Tryz.func78 rfl rfl rfl rfl rfl ?_
  repeat' (first|(apply F3;first|(apply C8;refine A8 ?_)|(apply F4;refine F8 rfl rfl ?_;refine G6 (p9 rfl (p9 rfl (p9 rfl rfl))) ?_)|(apply H6;first|refine F9 rfl rfl rfl (cU _) rfl rfl ?_ |refine F9 rfl rfl rfl (cO _) rfl rfl ?_ |refine F9 rfl rfl rfl (cE _) rfl rfl ?_)|(apply H9;refine AM5 rfl rfl rfl rfl rfl (AM4 rfl (AM4 rfl (Bj5 rfl rfl))) (by rw[hlen];decide) rfl ?_))|(apply U4;refine R5 (k:=0) I8 ?_)|(apply V6;first|(refine O9 rfl ?_)|(refine P8 rfl rfl rfl rfl (by kernel_rfl) (by decide+kernel) (by decide+kernel) ?_;first|(apply U5;refine I4 (V4 rfl rfl) ?_)|(apply Ae4;refine Ad4 rfl rfl ?_;refine AW6 (by omega) ?_)|(apply Q0;refine I4 (E8 rfl rfl) ?_)|(apply Y7;refine I4 (H8 rfl rfl) ?_))|(refine P9 rfl ?_)|(refine R4 (by decide+kernel) ?_)|(refine S9 (by kernel_rfl) ?_))|(apply X4;first|(refine T9 rfl)|(refine U7 (by decide+kernel) ?_)|(refine U0 rfl ?_ ?_))|(refine K3 (id:=0) ?_;refine AA9 (b:=wb) ?_))
  all_goals
    refine M9 _ (by (exact .inl rfl)) rfl (fun _ hw=>hw) ?_
    exact⟨rfl,rfl⟩
end
section
set_option maxHeartbeats 2000000
attribute [local irreducible] SW SL SQ AtQ SV SC BB LD PK Yields SO SOT SOA SY negC
theorem Be2 (G:Ctx) (H:List Ent) (M:Int) (hM:∀H w,Holds G H w→w.cell? ⟨2,0,none⟩=some (.int .i64 M)) (s s':Scr) (f:Fre s) (S:List Value) (h:ScS G H s S) (L:List Int) (ha:acts s (runP Y4 L).2 s') (ao:Option Addr) (n co:Nat) [h4:RdC G H ao (ints L)] (hn:n=L.length) (hmn:n≤4000000):
    SC Tryz.prog G 13 [.agg S.toArray,.slice ao n co] H fun v H'=>∃S' E,v= .tuple #[.agg S'.toArray,.string ⟨#[]⟩,.int .i64 0]∧H'=E++H∧ScS G E s' S':=by
  obtain⟨ga,gn,gc,oa,on,oc,pa,pn,pc,X,rfl,hS⟩:=h
  refine AI2 (Bs5 G H M hM s s' f X ga gn gc oa on oc pa pn pc hS L ha Aw4 ao n co hn hmn) fun v H'=>?_
  rintro ⟨ga2,gn2,gc2,oa2,on2,oc2,pa2,pn2,pc2,X2,E,rfl,rfl,hS2⟩
  exact⟨_,E,rfl,rfl,ga2,gn2,gc2,oa2,on2,oc2,pa2,pn2,pc2,X2,rfl,hS2⟩
theorem BI1 (G:Ctx) (H:List Ent) (M:Int) (hM:∀H w,Holds G H w→w.cell? ⟨2,0,none⟩=some (.int .i64 M)) (hT:∀H w,Holds G H w→Lib.Utf8Tabs 0 1 w)
    (s s':Scr) (f:Fre s) (wb:Nat) (S N:List Value) (p0 p1 p2:Value) (K:List Value) [hN:Len N 520] [hK:Len K 38] (buf:ByteArray) (ed:Bool) (sent:ByteArray) (h:ScS G H s S)
    (d d1:ByteArray) (hd:d.size≤4000) (h1:(⟨(d.data.toList.flatMap (fun b=>if b=13 then [13,10] else [b])).toArray⟩:ByteArray)=d1) (hd1:d1.size≤8000) (r:ByteArray) (L:List Int) (e:Int) (hf:feedU ⟨#[]⟩ d1=(r,L,e)) (hL:L.length≤100000) (ha:acts s (runP Y4 L).2 s'):
    SC Tryz.prog G 135 [.pointer (some ⟨wb,0,none⟩),.string d] (.blk wb 135 (wkC S N [p0,p1,p2] K (cliW buf ed sent))::H) fun v H'=>∃S' E,v=resV []∧H'= .blk wb 135 (wkC S' N [p0,p1,p2] K (cliW buf ed sent))::(E++H)∧ScS G E s' S':=by
  haveI hS:Len S 33:=⟨h.len⟩
  have cR:∀H',SV Tryz.prog G 40 [.string d,.string ⟨#[13]⟩,.string ⟨#[13,10]⟩] H' (.string d1):=fun H'=>by
    have h:=Ak2 G H' M (hM H') d (by omega) 13 [13,10] (by decide) (by decide)
    rw[h1] at h
    exact h
  have cF:=fun H=>Ao3 G H hT ⟨#[]⟩ d1 (by decide) (by omega)
  rw[hf] at cF
  dsimp only at cF
  have cW:=fun (H':List Ent) (hh:∀w,Holds G H' w→Holds G H w) (ao:Option Addr) (co:Nat) (h4:RdC G H' ao (ints L))=>Be2 G H' M hM s s' f S (h.mono hh) L ha ao L.length co rfl (by omega)
  have hlen:=AJ2 (S:=S) (N:=N) (K:=K) (P:=[p0,p1,p2]) (E:=cliW buf ed sent) (k:=614) rfl rfl rfl
  clear hM hT
  refine J3 Tryz.func135 rfl rfl rfl rfl rfl ?_
  repeat' (first|(apply F3;first|(apply C8;refine A8 ?_)|(apply C9;refine D8 rfl rfl ?_)|(apply F4;refine F8 rfl rfl ?_;refine L8 (AB3 rfl) rfl ?_)|(apply D6;refine D9 rfl rfl ?_)|(apply G7;refine G8 (E8 rfl rfl) rfl ?_)|(apply Q6;refine U2 (K7 rfl rfl rfl) rfl ?_)|(apply K8;refine M8 (H8 rfl rfl) rfl ?_)|(apply H6;first|refine F9 rfl rfl rfl (cR _) rfl rfl ?_ |(refine c_call rfl rfl rfl (cF _) rfl rfl ?_;rintro _ _ ⟨ao,co,rfl,rfl⟩)|(refine c_call rfl rfl rfl (cW _ I8 _ _ inferInstance) rfl rfl ?_;rintro _ _ ⟨S',E,rfl,rfl,hS2⟩;(have hl2:=hS2.len);(have ho2:=hS2.one)))|(apply H9;refine AE0 (off:=12) rfl rfl rfl rfl ho2 hl2 (by rw[hlen];decide) (AH8 (m:=33) rfl hl2) rfl ?_))|(apply D7)|(apply A7)|(apply D5))
  refine M9 _ (by (exact .inl rfl)) rfl (fun _ hw=>hw) ?_
  exact⟨S',E++[.own 3 1 ao L.length co (ints L)],rfl,by simp,hS2.mono (fun w hw=>hw.sub (List.sublist_append_left E _))⟩
end
end Go.Proofs.YtmmnimagbnlcmaaGreatDoor
section
namespace Go.Sx
open Go Go.RowKit Go.Fw
/-- A block pulled to the front. -/
theorem AL4 {P:Program} {G:Ctx} {f:FuncId} {args:List Value} {H H1:List Ent} {tb:Nat} {t:TypeId} {cs:List Value} {R:Value→List Ent→Prop} [p1:PickBlk H tb t cs H1] (h:SC P G f args (.blk tb t cs::H1) R):SC P G f args H R:=
  ⟨h.1,fun w hw=>h.2 w (hw.pick p1.here)⟩
end Go.Sx
namespace Go.Proofs.YtmmnimagbnlcmaaGreatDoor
open Go Go.RowKit Go.Fw Go.Sx
set_option maxRecDepth 100000
set_option maxHeartbeats 2000000
attribute [local irreducible] SW SL SQ AtQ SV SC BB LD PK Yields SO SOT SOA SY negC
end Go.Proofs.YtmmnimagbnlcmaaGreatDoor
end
namespace Go.Proofs.YtmmnimagbnlcmaaGreatDoor
open Go Go.RowKit Go.Fw Go.Sx
set_option maxRecDepth 100000
section
set_option maxHeartbeats 1000000
attribute [local irreducible] SW SL SQ AtQ SV SC BB LD PK Yields SO SOT SOA SY
abbrev keyV (name rune mods:Int):Value:= .agg #[.int .i64 name,.int .i64 rune,.int .i64 mods]
end
section
set_option maxHeartbeats 1000000
attribute [local irreducible] SW SL SQ AtQ SV SC BB LD PK Yields SO SOT SOA SY
def keyOk (name rune mods:Int):Prop:=(0≤mods∧mods≤7)∧(0≤name∧name≤26)∧(name=0→isR rune)∧(name≠0→rune=0)
/-- A rune with or without ctrl. -/
def charC (c z4:Int):Int:=if z4≠0 then (if (64≤c∧c≤95)∨(97≤c∧c≤122) then c % 32 else if c=32 then 0 else if c=63 then 127 else c) else c
def AL1 (name c z1 z4:Int):ByteArray:=
  if name=23 then ⟨#[13]⟩ else if name=24 then (if z1≠0 then ⟨#[27,91,90]⟩ else ⟨#[9]⟩) else if name=25 then (if z4≠0 then ⟨#[8]⟩ else ⟨#[127]⟩) else if name=26 then ⟨#[27]⟩ else strOfNums (runeL (charC c z4))
theorem Bh7 (c:Int) (h:isR c):encL [c]=runeL c:=by
  unfold encL fixR isR at *
  rw[List.flatMap_cons,List.flatMap_nil,List.append_nil,if_neg (by omega)]
theorem Bn9 (G:Ctx) (H:List Ent) (c:Int):SV Tryz.prog G 22 [.int .i64 c] H (.bool (decide (isR c))):=by
  unfold isR
  refine M5 Tryz.func22 rfl rfl rfl rfl rfl ?_
  repeat' (first|(apply F3;first|(apply C8;refine A8 ?_)|(apply C9;refine D8 rfl rfl ?_)|(apply E5;refine F5 rfl rfl rfl ?_;refine F7 rfl ?_)|(apply D6;refine D9 rfl rfl ?_)|(apply I6;refine I9 rfl rfl ?_;first|(apply Q9;refine Q8 rfl ?_)|(apply O1;refine O3 rfl ?_))|(apply I1;first|(refine J9 rfl rfl rfl rfl ?_;first|(apply I7)|(apply I5)|(apply X9)|(apply E9<;>intro hq<;>(try (exfalso;omega)))|(apply O8<;>intro hq<;>(try (exfalso;omega))))|refine o5 rfl rfl rfl rfl rfl rfl ?_))|(apply D7)|(apply H7)|(apply A7)|(apply D5))
  all_goals (refine M3 (by (exact .inr rfl)) rfl N7 ?_;first|exact Bg2 (by omega)|exact Bn6 (by omega)|exact Aj1 (by omega))
theorem Ax5 (G:Ctx) (H:List Ent) (c mods z4:Int) (h:isR c) (hz:ibits .and .i64 mods 4=z4):SV Tryz.prog G 51 [.int .i64 c,.int .i64 mods] H (.string (strOfNums (runeL (charC c z4)))):=by
  have cE:=fun H a x (hx:isR x) h=>Bh7 x hx▸As2 G H [x] a 1 1 (h1:=h) rfl rfl (by simp)
  have hcs:charC c z4=if z4≠0 then (if (64≤c∧c≤95)∨(97≤c∧c≤122) then c % 32 else if c=32 then 0 else if c=63 then 127 else c) else c:=rfl
  generalize charC c z4=y at *
  unfold isR at h cE
  have Hcs:=Lib.hid hcs
  clear hcs
  refine P7 Tryz.func51 rfl rfl rfl rfl rfl ?_
  repeat' (first|(apply F3;first|(apply C8;refine A8 ?_)|(apply C9;refine D8 rfl rfl ?_)|(apply E5;refine F5 rfl rfl rfl ?_;first|(refine AT0 rfl hz ?_)|(first|(apply AW4;refine Aq0 rfl rfl (by omega) (by omega) ?_)|refine F7 rfl ?_))|(apply D6;refine D9 rfl rfl ?_)|(apply I6;refine I9 rfl rfl ?_;first|(apply Q9;refine Q8 rfl ?_)|(apply O1;refine O3 rfl ?_))|(apply H6;refine F9 rfl rfl rfl (cE _ _ _ (by omega) inferInstance) rfl rfl ?_)|(apply V8;refine M7 rfl rfl rfl rfl rfl rfl rfl rfl rfl rfl (fun _=>?_))|(apply I1;first|(refine J9 rfl rfl rfl rfl ?_;first|(apply I7)|(apply I5)|(apply X9)|(apply E9<;>intro hq<;>(try (exfalso;omega)))|(apply O8<;>intro hq<;>(try (exfalso;omega))))|refine o5 rfl rfl rfl rfl rfl rfl ?_))|(apply D7)|(apply G9)|(apply H7)|(apply F6)|(apply A7)|(refine G5 rfl ?_;first|(apply I7)|(apply I5)|(apply E9<;>intro hq<;>(try (exfalso;omega)))|(apply X6<;>intro hq<;>(try (exfalso;omega))))|(apply D5)|(apply J2))
  all_goals (refine M3 (by (exact .inr rfl)) rfl N7 ?_;rw[Hcs.out];(repeat (first|rw[if_pos (by omega)]|rw[if_neg (by omega)]));rfl)
theorem Bl5 (G:Ctx) (H:List Ent) (name c mods z1 z4:Int) (hn:23≤name∧name≤26∨name=0) (h:name=0→isR c) (h1:ibits .and .i64 mods 1=z1) (h4:ibits .and .i64 mods 4=z4):SV Tryz.prog G 25 [keyV name c mods] H (.string (AL1 name c z1 z4)):=by
  have cC:=fun H (h0:name=0)=>Ax5 G H c mods z4 (h h0) h4
  have hp:AL1 name c z1 z4=if name=23 then ⟨#[13]⟩ else if name=24 then (if z1≠0 then ⟨#[27,91,90]⟩ else ⟨#[9]⟩) else if name=25 then (if z4≠0 then ⟨#[8]⟩ else ⟨#[127]⟩) else if name=26 then ⟨#[27]⟩ else strOfNums (runeL (charC c z4)):=rfl
  rw[hp]
  clear h hp
  refine M5 Tryz.func25 rfl rfl rfl rfl rfl ?_
  repeat' (first|(apply F3;first|(apply C8;refine A8 ?_)|(apply C9;refine D8 rfl rfl ?_)|(apply E5;refine F5 rfl rfl rfl ?_;first|(refine AT0 rfl h1 ?_)|(refine AT0 rfl h4 ?_)|(refine F7 rfl ?_))|(apply F4;refine F8 rfl rfl ?_;refine G6 rfl ?_)|(apply D6;refine D9 rfl rfl ?_)|(apply I6;refine I9 rfl rfl ?_;first|(apply Q9;refine Q8 rfl ?_)|(apply O1;refine O3 rfl ?_))|(apply G7;refine G8 (E8 rfl rfl) rfl ?_)|(apply H6;refine F9 rfl rfl rfl (cC _ (by omega)) rfl rfl ?_)|(apply K9;refine O5 rfl rfl rfl rfl rfl rfl (fun _=>?_))|(apply I1;refine J9 rfl rfl rfl rfl ?_;first|(apply I7)|(apply I5)|(apply E9<;>intro hq<;>(try (exfalso;omega)))))|(apply D7)|(apply G9)|(apply H7)|(apply F6)|(apply A7)|(refine G5 rfl ?_;first|(apply I5)|(apply E9<;>intro hq<;>(try (exfalso;omega)))|(apply X6<;>intro hq<;>(try (exfalso;omega))))|(apply D5)|(apply J4)|(apply J2)|(apply U1))
  all_goals (refine M3 (by (exact .inr rfl)) rfl N7 ?_;(repeat (first|rw[if_pos (by omega)]|rw[if_neg (by omega)]));rfl)
theorem Bz3 (G:Ctx) (H:List Ent) (name c mods z1 z2 z4 modes:Int) (hq:0≤mods∧mods≤7) (hn:23≤name∧name≤26∨name=0) (h:name=0→isR c) (h0:name≠0→c=0) (h1:ibits .and .i64 mods 1=z1) (h2:ibits .and .i64 mods 2=z2) (h4:ibits .and .i64 mods 4=z4):SV Tryz.prog G 7 [keyV name c mods,.int .i64 modes] H (.tuple #[.string (if z2≠0 then (⟨#[27]⟩:ByteArray)++AL1 name c z1 z4 else AL1 name c z1 z4),.int .i64 0]):=by
  have cP:=fun H=>Bl5 G H name c mods z1 z4 hn h h1 h4
  have cK:=fun H=>Bn9 G H c
  have hpl:(AL1 name c z1 z4).size≤10:=by
    unfold AL1
    repeat' split
    all_goals (first|decide|skip)
    rw[BL9]
    have:=AT8 (charC c z4)
    omega
  have z9:(⟨#[27]⟩:ByteArray).size=1:=rfl
  generalize AL1 name c z1 z4=B at *
  have hR:name=0→decide (isR c)=true:=fun e=>decide_eq_true (h e)
  generalize decide (isR c)=r at *
  clear h h1 h4
  refine P7 Tryz.func7 rfl rfl rfl rfl rfl ?_
  repeat' (first|(apply F3;first|(apply C8;refine A8 ?_)|(apply C9;refine D8 rfl rfl ?_)|(apply E5;refine F5 rfl rfl rfl ?_;first|(refine AT0 rfl h2 ?_)|(refine AW6 (by (try simp only[ByteArray.size_append]);omega) ?_)|(refine F7 rfl ?_))|(apply F4;refine F8 rfl rfl ?_;first|refine G6 rfl ?_ |refine K5 rfl ?_)|(apply D6;refine D9 rfl rfl ?_)|(apply I6;refine I9 rfl rfl ?_;first|(apply Q9;refine Q8 rfl ?_)|(apply O1;refine O3 rfl ?_))|(apply G7;refine G8 (E8 rfl rfl) rfl ?_)|(apply Y0;refine Z8 (Z7 rfl rfl rfl) rfl ?_)|(apply H6;first|refine F9 rfl rfl rfl (cP _) rfl rfl ?_ |refine F9 rfl rfl rfl (cK _) rfl rfl ?_)|(apply K9;refine O5 rfl rfl rfl rfl rfl rfl (fun _=>?_))|(apply I1;first|(refine J9 rfl rfl rfl rfl ?_;first|(apply I7)|(apply I5)|(apply X9)|(apply E9<;>intro hq<;>(try (exfalso;omega)))|(apply O8<;>intro hq<;>(try (exfalso;omega)))|(apply X6<;>intro hq<;>(try (exfalso;omega)))|(apply Aj5<;>intro hq))|refine o5 rfl rfl rfl rfl rfl rfl ?_))|(apply D7)|(apply G9)|(apply H7)|(apply F6)|(apply A7)|(refine G5 rfl ?_;first|(apply I7)|(apply I5)|(apply E9<;>intro hq<;>(try (exfalso;omega)))|(apply X6<;>intro hq<;>(try (exfalso;omega))))|(apply D5)|(apply J4)|(apply J2))
  all_goals first
    | (exfalso;omega)
    | (have hr:=hR (by omega);rw[hr] at hq;cases hq;done)
    | (rw[if_pos (by omega)];refine M3 (by first|exact .inl rfl|exact .inr rfl) rfl N7 ?_;rfl)
    | (rw[if_neg (by omega)];refine M3 (by (exact .inr rfl)) rfl N7 ?_;rfl)
end
section
set_option maxHeartbeats 2000000
attribute [local irreducible] SW SL SQ AtQ SV SC BB LD PK Yields SO SOT SOA SY negC
abbrev evC (kind:Int) (data:ByteArray) (name rune:Int):List Value:=[.int .i64 kind,.string data,.int .i64 name,.int .i64 rune,.int .i64 0,.int .i64 0,.int .i64 0,.int .i64 0,.int .i64 0,.bool false,.slice none 0 0,.int .i64 0,.int .i64 0,.bool false,.int .i64 0,.bool false]
theorem B95 (G:Ctx) (H:List Ent) (wb:Nat) (S N P K E:List Value) [hS:Len S 33] (m:Int) (hm:S[11]? =some (.int .i64 m)) (name rune:Int) (t:ByteArray) (s':Scr) (E2:List Value)
    (cK:∀H',SV Tryz.prog G 7 [keyV name rune 0,.int .i64 m] H' (.tuple #[.string t,.int .i64 0]))
    (cT:∀H',(∀w,Holds G H' w→Holds G H w)→SC Tryz.prog G 75 [.pointer (some ⟨wb,0,none⟩),.string t,.int .i64 0] (.blk wb 135 (wkC S N P K E)::H') fun v H''=>∃S' F,v= .int .i64 0∧H''= .blk wb 135 (wkC S' N P K E2)::(F++H')∧ScS G F s' S'):
    SC Tryz.prog G 44 [.pointer (some ⟨wb,0,none⟩),.agg (evC 2 ⟨#[]⟩ name rune).toArray] (.blk wb 135 (wkC S N P K E)::H) fun v H'=>∃S' F,v= .int .i64 0∧H'= .blk wb 135 (wkC S' N P K E2)::(F++H)∧ScS G F s' S':=by
  have hv:(wkC S N P K E)[23]? =some (.int .i64 m):=by
    refine AO4 (by decide) ?_
    exact hm
  generalize wkC S N P K E=cs at *
  refine J3 Tryz.func44 rfl rfl rfl rfl rfl ?_
  repeat' (first|(apply F3;first|(apply C8;refine A8 ?_)|(apply C9;refine D8 rfl rfl ?_)|(apply E5;refine F5 rfl rfl rfl ?_;refine F7 rfl ?_)|(apply F4;first|(refine F8 rfl rfl ?_;first|refine G6 rfl ?_ |refine L8 rfl rfl ?_)|(refine F8 rfl rfl ?_;refine G6 hv ?_))|(apply D6;refine D9 rfl rfl ?_)|(apply G7;first|refine G8 (E8 rfl rfl) rfl ?_ |refine G8 (w9 rfl rfl) rfl ?_)|(apply Q6;refine U2 (K7 rfl rfl rfl) rfl ?_)|(apply K8;refine M8 (H8 rfl rfl) rfl ?_)|(apply H6;first|refine F9 rfl rfl rfl (cK _) rfl rfl ?_ |(refine c_call rfl rfl rfl (AL4 (tb:=wb) (cT _ I8)) rfl rfl ?_;rintro _ _ ⟨S',F,rfl,rfl,hS2⟩))|(apply K9;refine O5 rfl rfl rfl rfl rfl rfl (fun _=>?_)))|(apply D7)|(apply H7)|(apply F6)|(apply A7)|(refine G5 rfl ?_;first|(apply I7)|(apply I5))|(apply D5)|(apply J4)|(apply U1))
  all_goals (skip)
  rename_i b3
  refine M9 _ (by (exact .inr rfl)) rfl (fun _ hw=>hw) ?_
  exact⟨S',F++[.blk b3 76 (evC 2 ⟨#[]⟩ name rune)],rfl,by simp,hS2.mono (fun w hw=>hw.sub (List.sublist_append_left F _))⟩
end
section
set_option maxHeartbeats 2000000
attribute [local irreducible] SW SL SQ AtQ SV SC BB LD PK Yields SO SOT SOA SY negC
def workZ:List Value:=cliZ++[.string .empty]
theorem AE5:cliZ.length=613:=by unfold cliZ;exact o9 (m:=520) (by rw[show (big [Value.slice none 0 0,.int .i64 0,.slice none 0 0] keyZ cliE).length=48 from o9 (m:=38) rfl];rfl)
theorem BE2:OffsT Tryz.prog 135 [(0,613),(613,1)] workZ:=⟨(([(0,613),(613,1)]:List (Nat×Nat)).toArray[·]?),fun _=>by kernel_rfl,fun i p h=>by simpa using h⟩
theorem A25 (C:List Value) (h:C.length=613):AB2 [(0,613),(613,1)] workZ [(0,C)]=some (C++[.string .empty]):=by
  have hz:workZ.length=614:=by unfold workZ;rw[List.length_append,AE5];rfl
  refine(AS6 (off:=0) (sz:=613) (l':=C++[.string .empty]) rfl h (by decide) (by rw[hz];decide) ?_).trans rfl
  unfold over workZ
  rw[h,List.take_zero,List.nil_append,Nat.zero_add,←AE5,List.drop_left]
theorem Ap4 (S N P K:List Value) (buf sent:ByteArray) (ed:Bool):wkC S N P K (cliX buf ed)++[.string sent]=wkC S N P K (cliW buf ed sent):=by
  unfold wkC big
  simp only[List.append_assoc]
  rfl
theorem Bv7 (S N P K:List Value) (buf sent:ByteArray) (ed:Bool) (h:(wkC S N P K (cliX buf ed)).length=613):take? ((wkC S N P K (cliW buf ed sent)).drop 0) 613=some (wkC S N P K (cliX buf ed)):=by
  refine AK2 h ?_
  rw[←Ap4,List.drop_zero,←h,List.take_left]
theorem BO2 (G:Ctx) (H:List Ent) (M:Int) (hM:∀H w,Holds G H w→w.cell? ⟨2,0,none⟩=some (.int .i64 M)) (s s2:Scr) (f:Fre s) (S P N N2 K:List Value) [hN:Len N 520] [hN2:Len N2 520] [hK:Len K 38] (h:CliS G H s S P) (buf buf2:ByteArray) (ed ed2:Bool) (sent2:ByteArray) (hb:buf.size<1024) (hN1:N.all (·.oneCell')=true) (hN21:N2.all (·.oneCell')=true) (hK1:K.all (·.oneCell')=true)
    (cN:∀H':List Ent,SV Tryz.prog G 71 [.agg N.toArray] H' (.int .i64 0)) (cK:∀H':List Ent,SV Tryz.prog G 72 [.agg K.toArray] H' (.int .i64 0)) (ev:List Value) (hev:ev.length=16) (hev1:ev.all (·.oneCell')=true)
    (cD:∀(H':List Ent) (wb:Nat) (S' P':List Value),CliS G H' s S' P'→SC Tryz.prog G 44 [.pointer (some ⟨wb,0,none⟩),.agg ev.toArray] (.blk wb 135 (wkC S' N P' K (cliW buf ed ⟨#[]⟩))::H') fun v H''=>∃S2 F,v= .int .i64 0∧H''= .blk wb 135 (wkC S2 N2 P' K (cliW buf2 ed2 sent2))::(F++H')∧(ScS G F s2 S2∨(S2=S'∧s2=s))):
    SC Tryz.prog G 18 [.agg (wkC S N P K (cliX buf ed)).toArray,.agg ev.toArray] H fun v H'=>∃S2 P2 E,v= .tuple #[.agg (wkC S2 N2 P2 K (cliX buf2 ed2)).toArray,.string sent2,.int .i64 0]∧H'=E++H∧CliS G E s2 S2 P2:=by
  have cC:=fun (H':List Ent) (hh:∀w,Holds G H' w→Holds G H w)=>BB0 G H' s f S P N K (h.mono hh) buf ed hb M hM cN cK
  have cL:=fun (H':List Ent) (hh:∀w,Holds G H' w→Holds G H w)=>BA7 G H' s f S P N K (h.mono hh) buf ed hN1 hK1
  have hS:Len S 33:=⟨h.1.len⟩
  obtain⟨na,nc,va,vc,hP,-⟩:=h.2
  have hlen:=AJ2 (S:=S) (N:=N) (K:=K) (P:=P) (E:=cliX buf ed) (k:=613) (p:=3) (by rw[hP];rfl) rfl rfl
  have hlb:Nat.beq (wkC S N P K (cliX buf ed)).length 613=true:=by rw[hlen];rfl
  have hvb:Nat.beq ev.length 16=true:=by rw[hev];rfl
  clear hP hM cN cK
  generalize hC:wkC S N P K (cliX buf ed)=C at *
  refine J3 Tryz.func18 rfl rfl rfl rfl rfl ?_
  repeat' (first|(apply F3;first|(apply C8;refine A8 ?_)|(apply C9;refine D8 rfl rfl ?_)|(apply E5;refine F5 rfl rfl rfl ?_;refine F7 rfl ?_)|(apply F4;refine F8 rfl rfl ?_;refine K5 hlb ?_)|(apply D6;refine D9 rfl rfl ?_)|(apply H6;first|refine F9 rfl rfl rfl (cC _ I8) rfl rfl ?_ |(refine c_call rfl rfl rfl (cL _ I8) rfl rfl ?_;rintro _ _ ⟨S',P',E,rfl,rfl,hE⟩))|(apply K9;refine O5 rfl rfl rfl rfl rfl rfl (fun _=>?_))|(apply L6;refine O0 rfl rfl rfl rfl (fun _=>?_)))|(apply D7)|(apply G9)|(apply A7)|(refine G5 rfl ?_;apply I5)|(apply D5))
  all_goals (skip)
  rename_i b2 b3 b4
  have hlP:P'.length=3:=by obtain⟨_,_,_,_,h,-⟩:=hE.2;rw[h];rfl
  haveI hS':Len S' 33:=⟨hE.1.len⟩
  have hl1:=AJ2 (S:=S') (N:=N) (K:=K) (P:=P') (E:=cliX buf ed) (k:=613) hlP rfl rfl
  have hB:=A25 _ hl1
  rw[show Value.string ByteArray.empty=Value.string (⟨#[]⟩:ByteArray) from rfl,Ap4] at hB
  have hlP1:P'.all (·.oneCell')=true:=by obtain⟨_,_,_,_,h,-⟩:=hE.2;rw[h];rfl
  clear cC cL
  repeat' (first|(apply F3;first|(apply C8;refine A8 ?_)|(apply C9;refine D8 rfl rfl ?_)|(apply E5;refine F5 rfl rfl rfl ?_;refine F7 rfl ?_)|(apply F4;refine F8 rfl rfl ?_;refine K5 hvb ?_)|(apply D6;refine D9 rfl rfl ?_)|(apply P5;refine R7 (O6 (h:=BE2) rfl rfl hB) rfl ?_)|(apply H6;refine c_call rfl rfl rfl (cD _ _ S' P' (hE.mono (fun w hw=>hw.sub (List.sublist_append_left E _)))) rfl rfl ?_;rintro _ _ ⟨S2,F,rfl,rfl,hF⟩)|(apply K9;refine O5 rfl rfl rfl rfl rfl rfl (fun _=>?_)))|(apply D7)|(apply G9)|((fail_if_success (refine K3 (id:=8) ?_));apply A7)|(refine G5 rfl ?_;apply I5)|(apply D5))
  all_goals (skip)
  rename_i wb
  have hS2:Len S2 33:=by
    rcases hF with hF|⟨rfl,-⟩
    · exact⟨hF.len⟩
    · exact hS'
  have hS21:S2.all (·.oneCell')=true:=by
    rcases hF with hF|⟨rfl,-⟩
    · exact hF.one
    · exact hE.1.one
  have hl2:=AJ2 (S:=S2) (N:=N2) (K:=K) (P:=P') (E:=cliX buf2 ed2) (k:=613) hlP rfl rfl
  have hl3:=AJ2 (S:=S2) (N:=N2) (K:=K) (P:=P') (E:=cliW buf2 ed2 sent2) (k:=614) hlP rfl rfl
  have hT:=Bv7 S2 N2 P' K buf2 sent2 ed2 hl2
  have h613:(wkC S2 N2 P' K (cliW buf2 ed2 sent2))[613]? =some (.string sent2):=by
    rw[←Ap4,List.getElem?_append_right (by rw[hl2];exact Nat.le_refl _),hl2]
    rfl
  have hone2:(wkC S2 N2 P' K (cliX buf2 ed2)).all (·.oneCell')=true:=j3 rfl hS21 (j3 rfl hN21 (j3 hlP1 hK1 rfl))
  generalize wkC S2 N2 P' K (cliW buf2 ed2 sent2)=W at *
  have hz:=AE5
  have hgo:∀w,Holds G ((F++E)++H) w→True:=fun _ _=>trivial
  have hC2:CliS G (F++E) s2 S2 P':=by
    refine⟨?_,?_⟩
    · rcases hF with hF|⟨rfl,rfl⟩
      · exact hF.mono (fun w hw=>hw.sub (List.sublist_append_left F E))
      · exact hE.1.mono (fun w hw=>hw.sub (List.sublist_append_right F E))
    · exact(hE.mono (fun w hw=>hw.sub (List.sublist_append_right F E))).2
  generalize hC2e:wkC S2 N2 P' K (cliX buf2 ed2)=C2 at *
  repeat' (first|(apply F3;first|(apply C8;refine A8 ?_)|(apply H9;refine r9 rfl rfl rfl rfl hone2 hl2 hz rfl ?_))|(apply U4;refine R5 (k:=0) I8 ?_)|(apply V6;first|(refine O9 rfl ?_)|(refine P8 rfl rfl rfl rfl (by kernel_rfl) (by decide+kernel) (by decide+kernel) ?_;first|(apply U5;refine I4 (V4 rfl rfl) ?_)|(apply U9;refine U6 rfl ?_;first|refine L8 hT rfl ?_ |refine G6 h613 ?_)|(apply Z0;refine I4 (X7 rfl rfl) ?_)|(apply Q0;refine I4 (E8 rfl rfl) ?_)|(apply Y7;refine I4 (H8 rfl rfl) ?_))|(refine P9 rfl ?_)|(refine R4 (by decide+kernel) ?_)|(refine S9 (by kernel_rfl) ?_))|(apply X4;first|(refine T9 rfl)|(refine U7 (by decide+kernel) ?_)|(refine U0 rfl ?_ ?_))|(apply H7)|(apply D5)|(refine K3 (id:=8) ?_;refine AA9 (b:=b4) ?_))
  all_goals
    refine d9 ((F++E)++H) (by (exact .inr rfl)) rfl hl2 rfl ?_ ⟨S2,P',F++E,by rw[hC2e];rfl,rfl,hC2⟩
  all_goals exact fun w hw=>hw.sub (by
    rw[List.append_assoc]
    exact List.Sublist.cons _ (List.Sublist.cons _ ((List.Sublist.refl F).append ((List.Sublist.refl E).append (List.Sublist.cons _ (List.Sublist.cons _ (List.Sublist.refl H)))))))
end
section
set_option maxHeartbeats 2000000
/-- A rune of any width put where the cursor is. -/
def putD (s:Scr) (c:Int):Scr:={s with C:=rowC s.C s.w s.row.toNat (mendQ H5 (putQ H5 (rowQ s.w s.C s.row.toNat) s.col.toNat c s.pf s.pr s.pb)),col:=(if s.col+H5 c>(s.w:Int)-1 then (s.w:Int)-1 else s.col+H5 c),late:=decide (s.col+H5 c>(s.w:Int)-1)}
attribute [local irreducible] SW SL SQ AtQ SV SC BB LD PK Yields SO SOT SOA SY
theorem BR5 (G:Ctx) (K:List Ent) (s:Scr) (c wd:Int) (tb gb gn gc:Nat) (oa:Option Addr) (on oc:Nat) (pa:Option Addr) (pn pc:Nat) (t:ByteArray) (hc:0≤c) (hwd:wd=1∨wd=2) (hw:H5 c=wd) (hl:s.late=false) (hg:GrOk s.w s.h s.C) (hgn:gn=s.C.length) (hgc:gn≤gc) (hrow:0≤s.row∧s.row<s.h) (hcol:0≤s.col∧s.col+wd≤s.w) (hm:s.modes=12) (hsh:s.sh=0) (hp0:s.p0=1):
    SC Tryz.prog G 105 [.pointer (some ⟨tb,0,none⟩),.int .i64 c] (.blk tb 158 (trmC s (some ⟨gb,0,none⟩) gn gc oa on oc pa pn pc t):: .own 97 4 (some ⟨gb,0,none⟩) gn gc (qds s.C)::K) fun v H'=>v=resV []∧H'= .blk tb 158 (trmC (putD s c) (some ⟨gb,0,none⟩) gn gc oa on oc pa pn pc t):: .own 97 4 (some ⟨gb,0,none⟩) gn gc (qds (putD s c).C)::K:=by
  have hlow:c≤127∨127<c:=by omega
  have cP:c≤127→∀H,SV Tryz.prog G 151 [.int .i64 1,.int .u8 c] H (.tuple #[.int .i64 c,.int .i64 0]):=fun hc2 H=>by
    have h:=AV3 G H 1 c.toNat (by omega) (by omega)
    rwa [A86 _ (by omega),Int.toNat_of_nonneg hc] at h
  have cW:=fun H=>AK6 G H c
  rw[hw] at cW
  have hm2:0≤s.modes∧s.modes≤2047:=by rw[hm];decide
  have hm1:(iand s.modes 1 !=0)=false:=by rw[hm,m12.1];rfl
  have hm4:(iand s.modes 4 !=0)=true:=by rw[hm,m12.2.1];rfl
  have cI1:=fun (H:List Ent) (cs:List Value) (_:HasBlk H tb 158 cs) (hc:cs[11]? =some (.int .i64 s.modes))=>AM6 G H tb cs s.modes 1 hm2 (by omega) hc
  have cI4:=fun (H:List Ent) (cs:List Value) (_:HasBlk H tb 158 cs) (hc:cs[11]? =some (.int .i64 s.modes))=>AM6 G H tb cs s.modes 4 hm2 (by omega) hc
  rw[hm1] at cI1
  rw[hm4] at cI4
  have cQ:=fun (H:List Ent)=>Ad5 G H s.C gb s.w s.h gn gc s.row.toNat s.col.toNat c s.pf s.pr s.pb hg hgn hgc (by omega) (by omega) (by intro h2;rw[hw] at h2;omega)
  rw[Int.toNat_of_nonneg hrow.1,Int.toNat_of_nonneg hcol.1] at cQ
  have hpu:(putD s c).C=rowC s.C s.w s.row.toNat (mendQ H5 (putQ H5 (rowQ s.w s.C s.row.toNat) s.col.toNat c s.pf s.pr s.pb)):=rfl
  have hcu:(putD s c).col=(if s.col+wd>(s.w:Int)-1 then (s.w:Int)-1 else s.col+wd):=by rw[←hw];rfl
  have hlu:(putD s c).late=decide (s.col+wd>(s.w:Int)-1):=by rw[←hw];rfl
  rw[hpu]
  generalize rowC s.C s.w s.row.toNat (mendQ H5 (putQ H5 (rowQ s.w s.C s.row.toNat) s.col.toNat c s.pf s.pr s.pb))=C' at *
  have hs:=hg.size
  have hlt:Value.bool s.late= .bool false:=by rw[hl]
  have hshv:Value.int .i64 s.sh= .int .i64 0:=by rw[hsh]
  have hp0v:Value.int .i64 s.p0= .int .i64 1:=by rw[hp0]
  unfold trmC
  rw[hlt,hshv,hp0v]
  have fin:∀(H:List Ent),trmC (putD s c) (some ⟨gb,0,none⟩) gn gc oa on oc pa pn pc t=trmC (putD s c) (some ⟨gb,0,none⟩) gn gc oa on oc pa pn pc t:=fun _=>rfl
  clear fin hw hpu hm hg hgn
  rcases hlow with hlow|hlow
  · have cP:=cP hlow
    rcases hwd with rfl|rfl
    all_goals
      refine J3 Tryz.func105 rfl rfl rfl rfl rfl ?_
      repeat' (first|(apply F3;first|(apply C8;refine A8 ?_)|(apply C9;refine D8 rfl rfl ?_)|(apply E5;refine F5 rfl rfl rfl ?_;first|(apply M0;refine L9 ⟨by omega,by omega⟩ ?_)|refine F7 rfl ?_)|(apply F4;refine F8 rfl rfl ?_;refine G6 rfl ?_)|(apply I6;refine I9 rfl rfl ?_;first|(apply Q9;refine Q8 rfl ?_)|(apply O1;refine O3 rfl ?_))|(apply G7;refine G8 (E8 rfl rfl) rfl ?_)|(apply K8;refine M8 (H8 rfl rfl) rfl ?_)|(apply H6;first|refine F9 rfl rfl rfl (cI1 _ _ inferInstance rfl) rfl rfl ?_ |refine F9 rfl rfl rfl (cI4 _ _ inferInstance rfl) rfl rfl ?_ |(refine c_call rfl rfl rfl (AC0 PickOwn.here (cQ _)) rfl rfl ?_;rintro _ _ ⟨rfl,rfl⟩))|(apply H9;refine U3 rfl rfl rfl rfl rfl rfl rfl ?_)|(apply I1;refine J9 rfl rfl rfl rfl ?_;first|(apply I7)|(apply I5)|(apply E9<;>intro hq<;>(try (exfalso;omega)))))|(apply AN1;first|(apply AF4;refine AF2 ?_)|(apply AE3;refine AG6 rfl rfl ?_)|(apply AG3;refine AK5 rfl rfl rfl ?_;apply y9;refine AA2 ⟨by omega,by omega⟩ ?_)|(apply AE1;refine AE9 rfl rfl ?_;refine G6 rfl ?_)|(apply AG4;refine AK1 rfl rfl ?_)|(apply AJ6;refine AI8 (E8 rfl rfl) rfl ?_)|(apply Ap6;refine A78 (K7 rfl rfl rfl) rfl ?_)|(apply Af4;refine Am8 (AA5 (k:= .u8) rfl rfl ⟨by omega,by omega⟩) rfl ?_)|(apply AK0;refine AH6 (AB7 rfl rfl rfl (by omega) (by omega)) rfl ?_)|(apply AS3;refine AV9 (H8 rfl rfl) rfl ?_)|(apply An1;first|refine AM3 rfl rfl rfl (cP _) rfl rfl ?_ |refine AM3 rfl rfl rfl (cW _) rfl rfl ?_))|(apply U4;refine R5 (k:=0) I8 ?_)|(apply V6;first|(refine O9 rfl ?_)|(refine P8 rfl rfl rfl rfl (by kernel_rfl) (by decide+kernel) (by decide+kernel) ?_;first|(apply U5;refine I4 (V4 rfl rfl) ?_)|(apply U9;refine U6 rfl ?_;first|refine G6 rfl ?_ |refine L8 rfl rfl ?_)|(apply Q0;refine I4 (E8 rfl rfl) ?_)|(apply Y7;refine I4 (H8 rfl rfl) ?_))|(refine P9 rfl ?_)|(refine R4 (by decide+kernel) ?_)|(refine S9 (by kernel_rfl) ?_))|(apply X4;first|(refine T9 rfl)|(refine U7 (by decide+kernel) ?_)|(refine U0 rfl ?_ ?_))|(apply D7)|(apply G9)|((fail_if_success (refine K3 (id:=12) ?_));apply A7)|(refine G5 rfl ?_;first|(apply I5)|(apply E9<;>intro hq<;>(try (exfalso;omega))))|(apply D5)|(refine K3 (id:=13) ?_;refine AU4 (a:=some ⟨gb,0,none⟩) ?_)|((fail_if_success (refine K3 (id:=12) ?_));refine AC9 (by kernel_rfl) ?_))
      all_goals (skip)
    all_goals
      rename_i hq
      refine M9 _ (.inl rfl) rfl (fun _ hw=>hw) ⟨rfl,?_⟩
      have e3:(putD s c).p0=1:=hp0
      have e4:(putD s c).sh=0:=hsh
      rw[e3,e4,hcu,hlu]
      first
        | (rw[if_pos hq,decide_eq_true hq];rfl)
        | (rw[if_neg hq,decide_eq_false hq];rfl)
  · clear cP
    rcases hwd with rfl|rfl
    all_goals
      refine J3 Tryz.func105 rfl rfl rfl rfl rfl ?_
      repeat' (first|(apply F3;first|(apply C8;refine A8 ?_)|(apply C9;refine D8 rfl rfl ?_)|(apply E5;refine F5 rfl rfl rfl ?_;first|(apply M0;refine L9 ⟨by omega,by omega⟩ ?_)|refine F7 rfl ?_)|(apply F4;refine F8 rfl rfl ?_;refine G6 rfl ?_)|(apply I6;refine I9 rfl rfl ?_;first|(apply Q9;refine Q8 rfl ?_)|(apply O1;refine O3 rfl ?_))|(apply G7;refine G8 (E8 rfl rfl) rfl ?_)|(apply K8;refine M8 (H8 rfl rfl) rfl ?_)|(apply H6;first|refine F9 rfl rfl rfl (cI1 _ _ inferInstance rfl) rfl rfl ?_ |refine F9 rfl rfl rfl (cI4 _ _ inferInstance rfl) rfl rfl ?_ |(refine c_call rfl rfl rfl (AC0 PickOwn.here (cQ _)) rfl rfl ?_;rintro _ _ ⟨rfl,rfl⟩))|(apply H9;refine U3 rfl rfl rfl rfl rfl rfl rfl ?_)|(apply I1;refine J9 rfl rfl rfl rfl ?_;first|(apply I7)|(apply I5)|(apply E9<;>intro hq<;>(try (exfalso;omega)))))|(apply AN1;first|(apply AF4;refine AF2 ?_)|(apply AE3;refine AG6 rfl rfl ?_)|(apply AG3;refine AK5 rfl rfl rfl ?_;apply y9;refine AA2 ⟨by omega,by omega⟩ ?_)|(apply AE1;refine AE9 rfl rfl ?_;refine G6 rfl ?_)|(apply AG4;refine AK1 rfl rfl ?_)|(apply AJ6;refine AI8 (E8 rfl rfl) rfl ?_)|(apply AS3;refine AV9 (H8 rfl rfl) rfl ?_)|(apply An1;refine AM3 rfl rfl rfl (cW _) rfl rfl ?_))|(apply U4;refine R5 (k:=0) I8 ?_)|(apply V6;first|(refine O9 rfl ?_)|(refine P8 rfl rfl rfl rfl (by kernel_rfl) (by decide+kernel) (by decide+kernel) ?_;first|(apply U5;refine I4 (V4 rfl rfl) ?_)|(apply U9;refine U6 rfl ?_;first|refine G6 rfl ?_ |refine L8 rfl rfl ?_)|(apply Q0;refine I4 (E8 rfl rfl) ?_)|(apply Y7;refine I4 (H8 rfl rfl) ?_))|(refine P9 rfl ?_)|(refine R4 (by decide+kernel) ?_)|(refine S9 (by kernel_rfl) ?_))|(apply X4;first|(refine T9 rfl)|(refine U7 (by decide+kernel) ?_)|(refine U0 rfl ?_ ?_))|(apply D7)|(apply G9)|((fail_if_success (refine K3 (id:=12) ?_));apply A7)|(refine G5 rfl ?_;first|(apply I5)|(apply E9<;>intro hq<;>(try (exfalso;omega))))|(apply D5)|(refine K3 (id:=13) ?_;refine AU4 (a:=some ⟨gb,0,none⟩) ?_)|((fail_if_success (refine K3 (id:=12) ?_));refine AC9 (by kernel_rfl) ?_))
      all_goals (skip)
    all_goals
      rename_i hq
      refine M9 _ (.inl rfl) rfl (fun _ hw=>hw) ⟨rfl,?_⟩
      have e3:(putD s c).p0=1:=hp0
      have e4:(putD s c).sh=0:=hsh
      rw[e3,e4,hcu,hlu]
      first
        | (rw[if_pos hq,decide_eq_true hq];rfl)
        | (rw[if_neg hq,decide_eq_false hq];rfl)
end
end Go.Proofs.YtmmnimagbnlcmaaGreatDoor
section
namespace Go.Fw
open Go Go.RowKit Go.Sx
abbrev Tri:=Int×Int×Int
def flagI (n:Int):Int:=[0,1,2,4,8,16,0,32,64,128].getD n.toNat 0
/-- One number. -/
def oneP (t:Tri) (n:Int):Tri:=
  if n=0 then (0,0,0)
  else if n≤9 then (ior t.1 (flagI n),t.2.1,t.2.2)
  else if n=22 then (iclr t.1 3,t.2.1,t.2.2)
  else if 23≤n∧n≤29 then (iclr t.1 (flagI (n-20)),t.2.1,t.2.2)
  else if 30≤n∧n≤37 then (t.1,n-29,t.2.2)
  else if n=39 then (t.1,0,t.2.2)
  else if 90≤n∧n≤97 then (t.1,n-81,t.2.2)
  else if 40≤n∧n≤47 then (t.1,t.2.1,n-39)
  else if n=49 then (t.1,t.2.1,0)
  else if 100≤n∧n≤107 then (t.1,t.2.1,n-91)
  else t
/-- A colour told by several numbers, and how many. -/
def extL (l:List Int):Int×Nat:=
  if 2≤l.length∧l.getD 0 0=5∧l.getD 1 0<256 then (max (l.getD 1 0) 0+1,2)
  else if 4≤l.length∧l.getD 0 0=2∧(l.getD 1 0<256∧l.getD 2 0<256∧l.getD 3 0<256) then (16777216+65536 * max (l.getD 1 0) 0+256 * max (l.getD 2 0) 0+max (l.getD 3 0) 0,4)
  else (0,0)
def setC (t:Tri) (n c:Int):Tri:=if n=38 then (t.1,c,t.2.2) else (t.1,t.2.1,c)
def sgrF:Nat→Tri→List Int→Tri
  | 0,t,_=>t
  | _+1,t,[]=>t
  | k+1,t,a::r=>if max a 0=38∨max a 0=48 then (if (extL r).2=0 then t else sgrF k (setC t (max a 0) (extL r).1) (r.drop (extL r).2)) else sgrF k (oneP t (max a 0)) r
def mxL (l:List Int):List Int:=l.map (max · 0)
theorem Ae6 (l:List Int):(mxL l).length=l.length:=by simp [mxL]
theorem Aj2 (l:List Int) (k:Nat):(mxL l).getD k 0=max (l.getD k 0) 0:=by
  unfold mxL
  simp only[List.getD_eq_getElem?_getD,List.getElem?_map]
  cases l[k]? <;>simp
theorem Bz0 (l:List Int):extL (mxL l)=extL l:=by
  unfold extL
  simp only[Ae6,Aj2]
  have e:∀x:Int,max (max x 0) 0=max x 0:=fun x=>by omega
  have e5:(max (l.getD 0 0) 0=5)=(l.getD 0 0=5):=by apply propext;omega
  have e2:(max (l.getD 0 0) 0=2)=(l.getD 0 0=2):=by apply propext;omega
  have el:∀x:Int,(max x 0<256)=(x<256):=fun x=>by apply propext;omega
  simp only[e,e5,e2,el]
theorem BN8 (l:List Int):(extL l).2=0∨(extL l).2=2∧2≤l.length∨(extL l).2=4∧4≤l.length:=by
  unfold extL
  split
  · exact .inr (.inl ⟨rfl,by omega⟩)
  · split
    · exact .inr (.inr ⟨rfl,by omega⟩)
    · exact .inl rfl
theorem Ao9:∀(k:Nat) (t:Tri) (l:List Int),sgrF k t (mxL l)=sgrF k t l
  | 0,_,_=>rfl
  | _+1,_,[]=>rfl
  | k+1,t,a::r=>by
    have e:max (max a 0) 0=max a 0:=by omega
    show (if max (max a 0) 0=38∨max (max a 0) 0=48 then (if (extL (mxL r)).2=0 then t else sgrF k (setC t (max (max a 0) 0) (extL (mxL r)).1) ((mxL r).drop (extL (mxL r)).2)) else sgrF k (oneP t (max (max a 0) 0)) (mxL r))=_
    rw[e,Bz0,Ao9 k _ r,show (mxL r).drop (extL r).2=mxL (r.drop (extL r).2) from by simp [mxL],Ao9 k _ _]
    rfl
/-- Enough is enough. -/
theorem Ac1:∀(k j:Nat) (t:Tri) (l:List Int),l.length≤k→sgrF (k+j) t l=sgrF k t l
  | 0,j,t,l,h=>by
    obtain rfl:l=[]:=List.eq_nil_of_length_eq_zero (by omega)
    cases j<;>rfl
  | k+1,j,t,[],_=>by
    rw[show k+1+j=(k+j)+1 from by omega]
    rfl
  | k+1,j,t,a::r,h=>by
    have hr:r.length≤k:=by simpa using h
    rw[show k+1+j=(k+j)+1 from by omega]
    show (if max a 0=38∨max a 0=48 then (if (extL r).2=0 then t else sgrF (k+j) (setC t (max a 0) (extL r).1) (r.drop (extL r).2)) else sgrF (k+j) (oneP t (max a 0)) r)=(if max a 0=38∨max a 0=48 then (if (extL r).2=0 then t else sgrF k (setC t (max a 0) (extL r).1) (r.drop (extL r).2)) else sgrF k (oneP t (max a 0)) r)
    rw[Ac1 k j _ r hr,Ac1 k j _ (r.drop _) (by rw[List.length_drop];omega)]
def sgrL (t:Tri) (l:List Int):Tri:=sgrF l.length t l
theorem AZ0 (t:Tri):sgrL t []=t:=rfl
theorem Ad0 (t:Tri) (a:Int) (r:List Int):sgrL t (a::r)=if max a 0=38∨max a 0=48 then (if (extL r).2=0 then t else sgrL (setC t (max a 0) (extL r).1) (r.drop (extL r).2)) else sgrL (oneP t (max a 0)) r:=by
  unfold sgrL
  show (if max a 0=38∨max a 0=48 then (if (extL r).2=0 then t else sgrF r.length (setC t (max a 0) (extL r).1) (r.drop (extL r).2)) else sgrF r.length (oneP t (max a 0)) r)=_
  rw[show sgrF r.length (setC t (max a 0) (extL r).1) (r.drop (extL r).2)=sgrF (r.drop (extL r).2).length (setC t (max a 0) (extL r).1) (r.drop (extL r).2) from by
    have h:=BN8 r
    have hl:(r.drop (extL r).2).length≤r.length:=by rw[List.length_drop];omega
    obtain⟨j,hj⟩:=Nat.le.dest hl
    rw[←hj,Ac1 _ _ _ _ (Nat.le_refl _)]]
theorem Bw3 (t:Tri) (l:List Int):sgrL t (mxL l)=sgrL t l:=by
  unfold sgrL
  rw[Ae6,Ao9]
attribute [irreducible] sgrL
end Go.Fw
end
