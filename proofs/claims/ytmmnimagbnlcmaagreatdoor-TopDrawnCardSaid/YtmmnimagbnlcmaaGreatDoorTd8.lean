/- Texts of this claim, merged: Trm2 Page Page2 Trm3 Par1 Trm4 Trm5 Chk1. -/
import Derived.Test.YtmmnimagbnlcmaaGreatDoorTd7
import Derived.Test.YtmmnimagbnlcmaaGreatDoorRows
import Derived.WalkKit
import Derived.WalkSpells
import Derived.WalkLawsBesides
import Derived.Handy
import Derived.Lib.Hide
import Derived.Laws.BitsAllLaws
import Derived.Deep.MidRow
import Derived.Deep.WholeRow
import Derived.BigQuiet
import Derived.Deep.QuietTactic
import Derived.Laws.CopyOwn
import Derived.StillTailTactics
import Derived.RegionTactic
import Derived.ChangeAlike
import Derived.Laws.AppendOwnNone
import Derived.Laws.MakeOwn
import Derived.Laws.IdiomStrings
import Derived.OrdersHeld
import Derived.Lib.SliceRun
import Derived.ChangeKeysEq
import Derived.Laws.CopyRow
import Derived.Lib.AppendStr
import Derived.ArgAppend
import Derived.Laws.RangeAny
import Derived.Maps.RangeRun
namespace Go.Proofs.YtmmnimagbnlcmaaGreatDoor
open Go Go.RowKit Go.Fw Go.Sx
set_option maxRecDepth 100000
section
set_option maxHeartbeats 2000000
/-- What is past, with one row more; forty at most. -/
def AO2 (p:List (List Qd)) (r:List Qd):List (List Qd):=if 40<(p++[r]).length then (p++[r]).drop 1 else p++[r]
/-- All up by a row. -/
def upR (s:Scr):Scr:={s with late:=false,past:=AO2 s.past (rowQ s.w s.C 0),C:=scrC s.C s.w s.h s.top.toNat s.bot.toNat 1 (32,0,0,s.pb)}
def downS (s:Scr):Scr:={s with late:=false,row:=s.row+1}
attribute [local irreducible] SW SL SQ AtQ SV SC BB LD PK Yields SO SOT SOA SY
theorem Ap9 (G:Ctx) (H:List Ent) (C:List Qd) {vs:List Value} (a:Option Addr) (w h n c k:Nat) [h1:RdC G H a vs] (hv:vs=qds C) (hn:n=C.length) (hm:n≤100000) (hnc:n≤c) (hwh:n=w * h) (hw:1≤w∧w≤160) (hk:k<h) (hk2:k≤1000):SC Tryz.prog G 37 [gridV w h a n c,.int .i64 k] H fun v H'=>∃a' c',v= .slice a' w c'∧H'= .own 97 4 a' w c' (qds (rowQ w C k))::H:=by
  subst hv
  have hlen:=j5 (w:=w) (h:=h) (k:=k) (C:=C) hk (by omega)
  have cR:=fun (H:List Ent) {vs:List Value} [RdC G H a vs] (hv:vs=qds C)=>Ak4 G H C a w h n c k hv hn hm hnc hwh hw hk hk2
  have cC:=fun (H:List Ent) (a':Option Addr) (c':Nat) (_:RdC G H a' (qds (rowQ w C k)))=>AQ5 G H (rowQ w C k) a' w c' rfl hlen.symm (by omega)
  generalize rowQ w C k=R at *
  clear hn hwh hm
  refine J3 Tryz.func37 rfl rfl rfl rfl rfl ?_
  repeat' (first|(apply F3;first|(apply C8;refine A8 ?_)|(apply C9;refine D8 rfl rfl ?_)|(apply F4;refine F8 rfl rfl ?_;refine K5 rfl ?_)|(apply D6;refine D9 rfl rfl ?_)|(apply H6;first|(refine c_call rfl rfl rfl (cR _ rfl) rfl rfl ?_;rintro _ _ ⟨rfl,a1,c1,rfl,h5,h6⟩)|(refine c_call rfl rfl rfl (cC _ _ _ inferInstance) rfl rfl ?_;rintro _ _ ⟨a2,c2,rfl,rfl⟩))|(apply K9;refine O5 rfl rfl rfl rfl rfl rfl (fun _=>?_)))|(apply D7)|(apply H7)|(apply A7)|(apply D5))
  exact M9 (.own 97 4 a2 w c2 (qds R)::H) (by (exact .inr rfl)) rfl I8 ⟨_,_,rfl,rfl⟩
theorem BD0 (G:Ctx) (H:List Ent) (s:Scr) (tb:Nat) (ga:Option Addr) (gn gc:Nat) (oa:Option Addr) (on oc:Nat) (pa:Option Addr) (pn pc:Nat) (t:ByteArray) (h1:s.row≠s.bot-1) (h2:0≤s.row∧s.row<(s.h:Int)-1) (h3:s.h≤60) (hb:0≤s.bot∧s.bot≤1000):SC Tryz.prog G 153 [.pointer (some ⟨tb,0,none⟩)] (.blk tb 158 (trmC s ga gn gc oa on oc pa pn pc t)::H) fun v H'=>v=resV []∧H'= .blk tb 158 (trmC (downS s) ga gn gc oa on oc pa pn pc t)::H:=by
  unfold trmC
  refine Y3 Tryz.func153 rfl rfl rfl rfl rfl ?_
  repeat' (first|(apply F3;first|(apply C8;refine A8 ?_)|(apply C9;refine D8 rfl rfl ?_)|(apply E5;refine F5 rfl rfl rfl ?_;apply M0;refine L9 ⟨by omega,by omega⟩ ?_)|(apply F4;refine F8 rfl rfl ?_;refine G6 rfl ?_)|(apply G7;refine G8 (E8 rfl rfl) rfl ?_)|(apply K8;refine M8 (H8 rfl rfl) rfl ?_)|(apply H9;refine U3 rfl rfl rfl rfl rfl rfl rfl ?_))|(apply AN1;first|(apply AF4;refine AF2 ?_)|(apply AE3;refine AG6 rfl rfl ?_)|(apply AG3;refine AK5 rfl rfl rfl ?_;first|(apply y9;refine AA2 ⟨by omega,by omega⟩ ?_)|refine F7 rfl ?_)|(apply AE1;refine AE9 rfl rfl ?_;refine G6 rfl ?_)|(apply AG4;refine AK1 rfl rfl ?_)|(apply AJ6;refine AI8 (E8 rfl rfl) rfl ?_)|(apply AS3;refine AV9 (H8 rfl rfl) rfl ?_))|(apply D7)|(apply F6)|(apply A7)|(refine G5 rfl ?_;apply E9<;>intro hq<;>(try (exfalso;omega)))|(apply D5)|(apply J2)|refine AC9 (by kernel_rfl) ?_)
  all_goals (skip)
  refine AG7 (_::H) (by (exact .inl rfl)) rfl (List.Sublist.cons_cons _ N7) ?_
  exact⟨rfl,rfl⟩
theorem BD6 (G:Ctx) (K Kr:List Ent) (s:Scr) (tb gb:Nat) (gc:Nat) (oa:Option Addr) (on oc:Nat) (pa:Option Addr) (pn pc:Nat) (t:ByteArray) (X:List (Rx Qd)) (hg:GrOk s.w s.h s.C) (gn:Nat) (hgn:gn=s.C.length) (hgc:gn≤gc) (h1:s.row=s.bot-1) (ht:s.top=0) (hb:1≤s.bot∧s.bot≤s.h) (hm:iand s.modes 256=0) (hm2:0≤s.modes∧s.modes≤2047)
    (hX:X.map (·.2.2)=s.past) (hr:RdX qds G Kr X) (hpn:pn=X.length) (hpl:pn≤40):
    SC Tryz.prog G 153 [.pointer (some ⟨tb,0,none⟩)] (.blk tb 158 (trmC s (some ⟨gb,0,none⟩) gn gc oa on oc pa pn pc t):: .own 97 4 (some ⟨gb,0,none⟩) gn gc (qds s.C):: .own 119 1 pa pn pc (X.map rxV)::K)
      fun v H'=>∃(E:List Ent) (pa':Option Addr) (pc':Nat) (X':List (Rx Qd)),v=resV []∧H'= .blk tb 158 (trmC (upR s) (some ⟨gb,0,none⟩) gn gc oa on oc pa' X'.length pc' t):: .own 97 4 (some ⟨gb,0,none⟩) gn gc (qds (upR s).C)::(E++K)∧RdC G (E++Kr) pa' (X'.map rxV)∧RdX qds G (E++Kr) X'∧X'.map (·.2.2)=(upR s).past∧CapC G (E++Kr) pa' X'.length pc':=by
  have cI:=fun (H:List Ent) (t':Scr) (pa':Option Addr) (pn' pc':Nat) (_:HasBlk H tb 158 (trmC {s with late:=false} (some ⟨gb,0,none⟩) gn gc oa on oc pa' pn' pc' t))=>CA2 G H {s with late:=false} 256 tb (some ⟨gb,0,none⟩) gn gc oa on oc pa' pn' pc' t hm2 (by omega)
  have cC:=fun (H:List Ent) (pa':Option Addr) (pn' pc':Nat) (_:HasBlk H tb 158 (trmC {s with late:=false} (some ⟨gb,0,none⟩) gn gc oa on oc pa' pn' pc' t))=>BU0 G H {s with late:=false} tb (some ⟨gb,0,none⟩) gn gc oa on oc pa' pn' pc' t
  have cR:=fun (H:List Ent) {vs:List Value} [RdC G H (some ⟨gb,0,none⟩) vs] (hv:vs=qds s.C)=>Ap9 G H s.C (some ⟨gb,0,none⟩) s.w s.h gn gc 0 hv hgn (by rw[hgn];exact hg.len1) hgc (by rw[hgn,hg.len]) hg.size.1 (by have:=hg.size;omega) (by omega)
  have cS:=fun (H:List Ent)=>BA2 G H s.C gb s.w s.h gn gc s.top.toNat s.bot.toNat 1 0 0 s.pb hgn hg.len (by rw[hgn];exact hg.len1) hgc hg.size.1 hg.size.2.2 (by omega) (by omega) (by omega)
  rw[Int.toNat_of_nonneg (show 0≤s.top by omega),Int.toNat_of_nonneg (show 0≤s.bot by omega)] at cS
  dsimp only at cI
  rw[hm] at cI
  have hone:(X.map (rxV (α:=Qd))).all (·.oneCell')=true:=by simp [List.all_map,Function.comp_def,rxV,Value.oneCell']
  have hlx:(X.map (rxV (α:=Qd))).length=pn * 1:=by rw[List.length_map,hpn,Nat.mul_one]
  have hw1:=hg.size
  have hup:(upR s).C=scrC s.C s.w s.h s.top.toNat s.bot.toNat 1 (32,0,0,s.pb):=rfl
  rw[hup]
  generalize scrC s.C s.w s.h s.top.toNat s.bot.toNat 1 (32,0,0,s.pb)=C' at *
  unfold trmC at *
  dsimp only at cI cC
  refine Y3 Tryz.func153 rfl rfl rfl rfl rfl ?_
  repeat' (first|(apply F3;first|(apply C8;refine A8 ?_)|(apply C9;refine D8 rfl rfl ?_)|(apply E5;refine F5 rfl rfl rfl ?_;refine F7 rfl ?_)|(apply F4;refine F8 rfl rfl ?_;refine G6 rfl ?_)|(apply I6;refine I9 rfl rfl ?_;apply Q9;refine Q8 rfl ?_)|(apply G7;refine G8 (E8 rfl rfl) rfl ?_)|(apply Y0;refine Z8 (Z7 rfl rfl rfl) rfl ?_)|(apply K8;refine M8 (H8 rfl rfl) rfl ?_)|(apply H6;refine F9 rfl rfl rfl (cI _ s _ _ _ inferInstance) rfl rfl ?_)|(apply H9;refine U3 rfl rfl rfl rfl rfl rfl rfl ?_)|(apply I1;refine J9 rfl rfl rfl rfl ?_;first|(apply I7)|(apply E9<;>intro hq<;>(try (exfalso;omega)))))|(apply AN1;first|(apply AF4;refine AF2 ?_)|(apply AE3;refine AG6 rfl rfl ?_)|(apply AG3;refine AK5 rfl rfl rfl ?_;first|(apply y9;refine AA2 ⟨by omega,by omega⟩ ?_)|refine F7 rfl ?_)|(apply AE1;refine AE9 rfl rfl ?_;refine G6 rfl ?_)|(apply AG4;refine AK1 rfl rfl ?_)|(apply AJ6;refine AI8 (E8 rfl rfl) rfl ?_)|(apply AS3;refine AV9 (H8 rfl rfl) rfl ?_))|(apply D7)|(apply F6)|((fail_if_success (refine K3 (id:=3) ?_));apply A7)|(refine G5 rfl ?_;first|(apply I7)|(apply E9<;>intro hq<;>(try (exfalso;omega))))|(apply D5)|((fail_if_success (refine K3 (id:=3) ?_));refine AC9 (by kernel_rfl) ?_))
  all_goals (skip)
  have hXl:∀r:Rx Qd,(X++[r]).map (rxV (α:=Qd))=X.map rxV++[rxV r]:=fun r=>by simp
  have hrl:=j5 (w:=s.w) (h:=s.h) (k:=0) (C:=s.C) (by omega) hg.len
  generalize hRd:rowQ s.w s.C 0=R at *
  refine j4 (α:=(Option Addr×Nat)×Option Addr×Nat) (fun g=>[(0,.pointer (some ⟨tb,0,none⟩))])
    (fun g=> .blk tb 158 (.int .i64 s.w:: .int .i64 s.h:: .slice (some ⟨gb,0,none⟩) gn gc:: .int .i64 s.row:: .int .i64 s.col:: .bool false:: .int .i64 s.top:: .int .i64 s.bot:: .int .i64 s.pf:: .int .i64 s.pr:: .int .i64 s.pb:: .int .i64 s.modes::
   .int .u64 (s.st 0):: .int .u64 (s.st 1):: .int .u64 (s.st 2):: .int .u64 (s.st 3):: .int .i64 s.p0:: .int .i64 s.p1:: .int .i64 s.sh:: .int .i64 s.sr:: .int .i64 s.sc:: .int .i64 s.spf:: .int .i64 s.spr:: .int .i64 s.spb:: .bool s.so:: .int .i64 s.sp0:: .int .i64 s.sp1:: .int .i64 s.ssh::
   .int .i64 s.w:: .int .i64 s.h:: .slice oa on oc:: .string s.ti:: .slice g.2.1 (pn+1) g.2.2:: .string t::[]):: .own 97 4 (some ⟨gb,0,none⟩) gn gc (qds s.C):: .own 119 1 g.2.1 (pn+1) g.2.2 (X.map rxV++[.slice g.1.1 s.w g.1.2]):: .own 97 4 g.1.1 s.w g.1.2 (qds R)::K) (fun _=>True) ?_ ?_
  · repeat' (first|(apply F3;first|(apply C8;refine A8 ?_)|(apply F4;refine F8 rfl rfl ?_;first|refine G6 rfl ?_ |refine L8 rfl rfl ?_)|(apply H6;refine c_call rfl rfl rfl (cR _ rfl) rfl rfl ?_;rintro _ _ ⟨ra,rc,rfl,rfl⟩)|(apply J5;refine R6 rfl rfl rfl rfl (by (rfl)) (by (rfl)) (by omega) rfl rfl (fun _ _=>?_))|(apply H9;refine U3 rfl rfl rfl rfl rfl rfl rfl ?_)|(apply V8;refine Ae5 rfl rfl rfl rfl rfl rfl rfl rfl rfl (fun _=>?_)))|(apply U4;refine R5 (k:=0) I8 ?_)|(apply V6;first|(refine O9 rfl ?_)|(refine P8 rfl rfl rfl rfl (by kernel_rfl) (by decide+kernel) (by decide+kernel) ?_;first|(apply U5;refine I4 (V4 rfl rfl) ?_)|(apply Q0;refine I4 (E8 rfl rfl) ?_)|(apply AH3;refine I4 (O6 rfl rfl rfl) ?_)|(apply Y7;refine I4 (H8 rfl rfl) ?_))|(refine P9 rfl ?_)|(refine R4 (by decide+kernel) ?_)|(refine S9 (by kernel_rfl) ?_))|(apply X4;first|(refine T9 rfl)|(refine U7 (by decide+kernel) ?_)|(refine U0 rfl ?_ ?_))|(refine K3 (id:=3) ?_;refine V3 (.own 97 4 (some ⟨gb,0,none⟩) gn gc (qds s.C)::K) I8 ?_))
    all_goals
      rename_i b2 a2 c2
      exact J6 ((ra,rc),a2,c2) trivial (by repeat (first|exact Le.nil _|refine Le.cons (by (rfl)) ?_)) I8
  rintro ⟨⟨ra,rc⟩,a2,c2⟩-
  dsimp only
  have hl2:(X.map (rxV (α:=Qd))++[Value.slice ra s.w rc]).length=(pn+1) * 1:=by rw[List.length_append,hlx];rfl
  have hRx:Value.slice ra s.w rc=rxV ((ra,rc,R):Rx Qd):=by show _=Value.slice ra R.length rc;rw[hrl]
  by_cases h40:pn+1≤40
  · repeat' (first|(apply F3;first|(apply C8;refine A8 ?_)|(apply C9;refine D8 rfl rfl ?_)|(apply E5;refine F5 rfl rfl rfl ?_;refine F7 rfl ?_)|(apply F4;refine F8 rfl rfl ?_;refine G6 rfl ?_)|(apply G7;refine G8 (E8 rfl rfl) rfl ?_)|(apply K8;refine M8 (H8 rfl rfl) rfl ?_)|(apply J5;refine s_call (Q5 rfl rfl) rfl ?_))|(apply D7)|(apply G9)|((fail_if_success (refine K3 (id:=6) ?_));apply A7)|(refine G5 rfl ?_;apply E9<;>intro hq<;>(try (exfalso;omega)))|(apply D5))
    all_goals (skip)
    repeat' (first|(apply F3;first|(apply C8;refine A8 ?_)|(apply H6;first|refine F9 rfl rfl rfl (cC _ _ _ _ inferInstance) rfl rfl ?_ |(refine c_call rfl rfl rfl (AC0 PickOwn.here (cS _)) rfl rfl ?_;rintro _ _ ⟨rfl,rfl⟩)))|(apply U4;refine R5 (k:=0) I8 ?_)|(apply V6;first|(refine O9 rfl ?_)|(refine P8 rfl rfl rfl rfl (by kernel_rfl) (by decide+kernel) (by decide+kernel) ?_;first|(apply U5;refine I4 (V4 rfl rfl) ?_)|(apply U9;refine U6 rfl ?_;first|refine G6 rfl ?_ |refine L8 rfl rfl ?_)|(apply Q0;refine I4 (E8 rfl rfl) ?_)|(apply Y7;refine I4 (H8 rfl rfl) ?_))|(refine P9 rfl ?_)|(refine R4 (by decide+kernel) ?_)|(refine S9 (by kernel_rfl) ?_))|(apply X4;first|(refine T9 rfl)|(refine U7 (by decide+kernel) ?_)|(refine U0 rfl ?_ ?_))|(apply J2)|(refine K3 (id:=6) ?_;refine V3 (.blk tb 158 (.int .i64 s.w:: .int .i64 s.h:: .slice (some ⟨gb,0,none⟩) gn gc:: .int .i64 s.row:: .int .i64 s.col:: .bool false:: .int .i64 s.top:: .int .i64 s.bot:: .int .i64 s.pf:: .int .i64 s.pr:: .int .i64 s.pb:: .int .i64 s.modes:: .int .u64 (s.st 0):: .int .u64 (s.st 1):: .int .u64 (s.st 2):: .int .u64 (s.st 3):: .int .i64 s.p0:: .int .i64 s.p1:: .int .i64 s.sh:: .int .i64 s.sr:: .int .i64 s.sc:: .int .i64 s.spf:: .int .i64 s.spr:: .int .i64 s.spb:: .bool s.so:: .int .i64 s.sp0:: .int .i64 s.sp1:: .int .i64 s.ssh:: .int .i64 s.w:: .int .i64 s.h:: .slice oa on oc:: .string s.ti:: .slice a2 (pn+1) c2:: .string t::[]):: .own 119 1 a2 (pn+1) c2 (X.map rxV++[Value.slice ra s.w rc]):: .own 97 4 ra s.w rc (qds R)::K) I8 ?_))
    have hp3:(upR s).past=s.past++[R]:=by unfold upR AO2;dsimp only;rw[hRd,if_neg (by rw[List.length_append,←hX,List.length_map];simp;omega)]
    have hl3:(X++[((ra,rc,R):Rx Qd)]).length=pn+1:=by rw[List.length_append,hpn];rfl
    refine M9 (.blk tb 158 (trmC (upR s) (some ⟨gb,0,none⟩) gn gc oa on oc a2 (pn+1) c2 t):: .own 97 4 (some ⟨gb,0,none⟩) gn gc (qds C'):: .own 119 1 a2 (pn+1) c2 (X.map rxV++[Value.slice ra s.w rc]):: .own 97 4 ra s.w rc (qds R)::K) (.inl rfl) rfl I8 ⟨[.own 119 1 a2 (pn+1) c2 (X.map rxV++[Value.slice ra s.w rc]),.own 97 4 ra s.w rc (qds R)],a2,c2,X++[((ra,rc,R):Rx Qd)],rfl,by rw[hl3];rfl,?_,?_,by rw[List.map_append,hX,hp3];rfl,?_⟩
    · rw[hXl,←hRx];exact inferInstanceAs (RdC G (.own 119 1 a2 (pn+1) c2 (X.map rxV++[Value.slice ra s.w rc]):: .own 97 4 ra s.w rc (qds R)::Kr) a2 _)
    · exact(hr.app (E:=[_,_])).snoc (Sl.own (e:=97) (sz:=4) (n:=s.w) (vs:=qds R) (by simp) rfl hrl.symm)
    · rw[hl3];exact inferInstanceAs (CapC G (.own 119 1 a2 (pn+1) c2 (X.map rxV++[Value.slice ra s.w rc]):: .own 97 4 ra s.w rc (qds R)::Kr) a2 (pn+1) c2)
  · refine AW8 fun w0 hw0=>?_
    have hcap:pn+1≤c2:=CapC.here (a:=a2) (m:=pn+1) (c:=c2) w0 hw0
    clear hw0 w0
    repeat' (first|(apply F3;first|(apply C8;refine A8 ?_)|(apply C9;refine D8 rfl rfl ?_)|(apply E5;refine F5 rfl rfl rfl ?_;refine F7 rfl ?_)|(apply F4;refine F8 rfl rfl ?_;refine G6 rfl ?_)|(apply G7;refine G8 (E8 rfl rfl) rfl ?_)|(apply K8;refine M8 (H8 rfl rfl) rfl ?_)|(apply J5;refine s_call (Q5 rfl rfl) rfl ?_)|(apply H9;refine U3 rfl rfl rfl rfl rfl rfl rfl ?_)|(apply o7;refine AD6 (Hr:= .own 119 1 a2 (pn+1) c2 (X.map rxV++[Value.slice ra s.w rc]):: .own 97 4 ra s.w rc (qds R)::Kr) rfl rfl rfl rfl rfl (RdC.here (a:=a2)) hl2 (by omega) (by omega) (by omega) (by omega) rfl rfl (fun a3 h3=>?_)))|(apply D7)|((fail_if_success (refine K3 (id:=6) ?_));apply A7)|(refine G5 rfl ?_;apply E9<;>intro hq<;>(try (exfalso;omega)))|(apply D5))
    all_goals (skip)
    have e5:((pn+1:Nat):Int).toNat-(1:Int).toNat=pn:=by omega
    have e6:c2-(1:Int).toNat=c2-1:=rfl
    rw[e5,e6]
    rw[e5] at h3
    repeat' (first|(apply F3;first|(apply C8;refine A8 ?_)|(apply H6;first|refine F9 rfl rfl rfl (cC _ _ _ _ inferInstance) rfl rfl ?_ |(refine c_call rfl rfl rfl (AC0 PickOwn.here (cS _)) rfl rfl ?_;rintro _ _ ⟨rfl,rfl⟩)))|(apply U4;refine R5 (k:=0) I8 ?_)|(apply V6;first|(refine O9 rfl ?_)|(refine P8 rfl rfl rfl rfl (by kernel_rfl) (by decide+kernel) (by decide+kernel) ?_;first|(apply U5;refine I4 (V4 rfl rfl) ?_)|(apply U9;refine U6 rfl ?_;first|refine G6 rfl ?_ |refine L8 rfl rfl ?_)|(apply Q0;refine I4 (E8 rfl rfl) ?_)|(apply Y7;refine I4 (H8 rfl rfl) ?_))|(refine P9 rfl ?_)|(refine R4 (by decide+kernel) ?_)|(refine S9 (by kernel_rfl) ?_))|(apply X4;first|(refine T9 rfl)|(refine U7 (by decide+kernel) ?_)|(refine U0 rfl ?_ ?_))|(apply J2)|(refine K3 (id:=6) ?_;refine V3 (.blk tb 158 (.int .i64 s.w:: .int .i64 s.h:: .slice (some ⟨gb,0,none⟩) gn gc:: .int .i64 s.row:: .int .i64 s.col:: .bool false:: .int .i64 s.top:: .int .i64 s.bot:: .int .i64 s.pf:: .int .i64 s.pr:: .int .i64 s.pb:: .int .i64 s.modes:: .int .u64 (s.st 0):: .int .u64 (s.st 1):: .int .u64 (s.st 2):: .int .u64 (s.st 3):: .int .i64 s.p0:: .int .i64 s.p1:: .int .i64 s.sh:: .int .i64 s.sr:: .int .i64 s.sc:: .int .i64 s.spf:: .int .i64 s.spr:: .int .i64 s.spb:: .bool s.so:: .int .i64 s.sp0:: .int .i64 s.sp1:: .int .i64 s.ssh:: .int .i64 s.w:: .int .i64 s.h:: .slice oa on oc:: .string s.ti:: .slice a3 pn (c2-1):: .string t::[]):: .own 119 1 a2 (pn+1) c2 (X.map rxV++[Value.slice ra s.w rc]):: .own 97 4 ra s.w rc (qds R)::K) I8 ?_))
    have hX3:((X.map (rxV (α:=Qd))++[Value.slice ra s.w rc]).drop ((1:Int).toNat * 1)).take (pn * 1)=((X++[((ra,rc,R):Rx Qd)]).drop 1).map rxV:=by
      rw[hRx,show [rxV ((ra,rc,R):Rx Qd)]=[((ra,rc,R):Rx Qd)].map rxV from rfl,←List.map_append,show (1:Int).toNat * 1=1 from rfl,←List.map_drop,List.take_of_length_le (by rw[List.length_map,List.length_drop,List.length_append,←hpn];simp)]
    rw[hX3] at h3
    have hp3:(upR s).past=(s.past++[R]).drop 1:=by unfold upR AO2;dsimp only;rw[hRd,if_pos (by rw[List.length_append,←hX,List.length_map];simp;omega)]
    have hl3:((X++[((ra,rc,R):Rx Qd)]).drop 1).length=pn:=by rw[List.length_drop,List.length_append,←hpn];simp
    refine M9 (.blk tb 158 (trmC (upR s) (some ⟨gb,0,none⟩) gn gc oa on oc a3 pn (c2-1) t):: .own 97 4 (some ⟨gb,0,none⟩) gn gc (qds C'):: .own 119 1 a2 (pn+1) c2 (X.map rxV++[Value.slice ra s.w rc]):: .own 97 4 ra s.w rc (qds R)::K) (.inl rfl) rfl I8 ⟨[.own 119 1 a2 (pn+1) c2 (X.map rxV++[Value.slice ra s.w rc]),.own 97 4 ra s.w rc (qds R)],a3,c2-1,(X++[((ra,rc,R):Rx Qd)]).drop 1,rfl,by rw[hl3];rfl,h3,?_,by rw[List.map_drop,List.map_append,hX,hp3];rfl,?_⟩
    · exact((hr.app (E:=[_,_])).snoc (Sl.own (e:=97) (sz:=4) (n:=s.w) (vs:=qds R) (by simp) rfl hrl.symm)).sub fun y hy=>List.mem_of_mem_drop hy
    · rw[hl3];exact⟨fun w hw=>by
        have:=CapC.here (a:=a2) (m:=pn+1) (c:=c2) (H:= .own 119 1 a2 (pn+1) c2 (X.map rxV++[Value.slice ra s.w rc]):: .own 97 4 ra s.w rc (qds R)::Kr) w hw
        omega⟩
end
section
open Go.RowKit Go.Fw
def AP9:List Int:=[160,9670,9618,9225,9228,9229,9226,176,177,9252,9227,9496,9488,9484,9492,9532,9146,9147,9472,9148,9149,9500,9508,9524,9516,9474,8804,8805,960,8800,163,183]
def AF6:Array Value:=(ints AP9).toArray
def AM9:List (Nat×Value):=(ints AP9).zipIdx.map fun (x,i)=>(i,x)
def AB6 (p:Int) (b:Nat):Int:=
  if p=2 then b else if 127<b then 65533 else if p=4∧b=35 then 163 else if p=3∧95≤b∧b≤126 then AP9.getD (b-95) 0 else b
theorem AD9:Tryz.prog.built 332 AM9=some AF6:=by kernel_rfl
theorem AF3:(Tryz.prog.info? 332).map (·.size)=some AF6.size:=by kernel_rfl
theorem AG8:AF6.all (·.oneCell')=true:=by kernel_rfl
theorem AG9:AF6.size=32:=rfl
theorem BL5 (k:Nat) (hk:k<32):AF6[k]? =some (.int .i64 (AP9.getD k 0)):=by
  have hl:k<AP9.length:=hk
  unfold AF6 ints
  simp [List.getD,List.getElem?_eq_getElem hl]
set_option maxRecDepth 100000 in
set_option maxHeartbeats 1000000 in
theorem Bn7 (b:Nat) (w:World) (_hb:b<256):
    Calls Tryz.prog 206 #[.int .i64 2,.int .u8 b] w fun e w'=>e= .returned (.int .i64 (b))∧Below w.heap.size w w':=by
  have B1:=Lib.hid AD9
  have B2:=Lib.hid AF3
  have B3:=Lib.hid AG8
  have B4:=Lib.hid AG9
  generalize AF6=C at *
  have hbl:Below w.heap.size w (w.alloc (.cells C 332)):=(Below.refl _ _).alloc (Nat.le_refl _) _
  go_enter Tryz.func206,Tryz.ntmps206
  go_wp2_with (first|((with_reducible refine AD1 rfl 332 _ rfl AM9 C ?_ B1.out ?_);(focus rfl))|((with_reducible refine l9 rfl 332 _ _ rfl _ w.heap.size _ C rfl ?_ ?_ ?_ B2.out ?_ B3.out ?_);(focus rfl);(focus rfl);(focus rfl);(focus (rw[B4.out];rfl))))
  go_ret
  exact⟨rfl,hbl⟩
set_option maxRecDepth 100000 in
set_option maxHeartbeats 1000000 in
theorem BX5 (p:Int) (b:Nat) (w:World) (_hb:b<256) (h2:¬p=2) (h:127<b):
    Calls Tryz.prog 206 #[.int .i64 p,.int .u8 b] w fun e w'=>e= .returned (.int .i64 (65533))∧Below w.heap.size w w':=by
  have B1:=Lib.hid AD9
  have B2:=Lib.hid AF3
  have B3:=Lib.hid AG8
  have B4:=Lib.hid AG9
  generalize AF6=C at *
  have hbl:Below w.heap.size w (w.alloc (.cells C 332)):=(Below.refl _ _).alloc (Nat.le_refl _) _
  go_enter Tryz.func206,Tryz.ntmps206
  go_wp2_with (first|((with_reducible refine AD1 rfl 332 _ rfl AM9 C ?_ B1.out ?_);(focus rfl))|((with_reducible refine l9 rfl 332 _ _ rfl _ w.heap.size _ C rfl ?_ ?_ ?_ B2.out ?_ B3.out ?_);(focus rfl);(focus rfl);(focus rfl);(focus (rw[B4.out];rfl))))
  go_ret
  exact⟨rfl,hbl⟩
set_option maxRecDepth 100000 in
set_option maxHeartbeats 1000000 in
theorem BK8 (w:World):
    Calls Tryz.prog 206 #[.int .i64 4,.int .u8 35] w fun e w'=>e= .returned (.int .i64 (163))∧Below w.heap.size w w':=by
  have B1:=Lib.hid AD9
  have B2:=Lib.hid AF3
  have B3:=Lib.hid AG8
  have B4:=Lib.hid AG9
  generalize AF6=C at *
  have hbl:Below w.heap.size w (w.alloc (.cells C 332)):=(Below.refl _ _).alloc (Nat.le_refl _) _
  go_enter Tryz.func206,Tryz.ntmps206
  go_wp2_with (first|((with_reducible refine AD1 rfl 332 _ rfl AM9 C ?_ B1.out ?_);(focus rfl))|((with_reducible refine l9 rfl 332 _ _ rfl _ w.heap.size _ C rfl ?_ ?_ ?_ B2.out ?_ B3.out ?_);(focus rfl);(focus rfl);(focus rfl);(focus (rw[B4.out];rfl))))
  go_ret
  exact⟨rfl,hbl⟩
set_option maxRecDepth 100000 in
set_option maxHeartbeats 1000000 in
theorem Bk9 (b:Nat) (w:World) (_hb:b<256) (h:¬127<b) (h35:¬b=35):
    Calls Tryz.prog 206 #[.int .i64 4,.int .u8 b] w fun e w'=>e= .returned (.int .i64 (b))∧Below w.heap.size w w':=by
  have B1:=Lib.hid AD9
  have B2:=Lib.hid AF3
  have B3:=Lib.hid AG8
  have B4:=Lib.hid AG9
  generalize AF6=C at *
  have hbl:Below w.heap.size w (w.alloc (.cells C 332)):=(Below.refl _ _).alloc (Nat.le_refl _) _
  go_enter Tryz.func206,Tryz.ntmps206
  go_wp2_with (first|((with_reducible refine AD1 rfl 332 _ rfl AM9 C ?_ B1.out ?_);(focus rfl))|((with_reducible refine l9 rfl 332 _ _ rfl _ w.heap.size _ C rfl ?_ ?_ ?_ B2.out ?_ B3.out ?_);(focus rfl);(focus rfl);(focus rfl);(focus (rw[B4.out];rfl))))
  go_ret
  exact⟨rfl,hbl⟩
set_option maxRecDepth 100000 in
set_option maxHeartbeats 1000000 in
theorem Bf0 (b:Nat) (w:World) (h1:95≤b) (h2:b≤126):
    Calls Tryz.prog 206 #[.int .i64 3,.int .u8 b] w fun e w'=>e= .returned (.int .i64 (AP9.getD (b-95) 0))∧Below w.heap.size w w':=by
  have B1:=Lib.hid AD9
  have B2:=Lib.hid AF3
  have B3:=Lib.hid AG8
  have B4:=Lib.hid AG9
  have hx:=BL5 (b-95) (by omega)
  generalize AF6=C at *
  have hbl:Below w.heap.size w (w.alloc (.cells C 332)):=(Below.refl _ _).alloc (Nat.le_refl _) _
  obtain⟨x,hX⟩:∃x,x=AP9.getD (b-95) 0:=⟨_,rfl⟩
  rw[←hX] at hx ⊢
  clear hX
  go_enter Tryz.func206,Tryz.ntmps206
  go_wp2_with (first|((with_reducible refine AD1 rfl 332 _ rfl AM9 C ?_ B1.out ?_);(focus rfl))|((with_reducible refine l9 rfl 332 _ _ rfl _ w.heap.size _ C rfl ?_ ?_ ?_ B2.out ?_ B3.out ?_);(focus rfl);(focus rfl);(focus rfl);(focus (rw[B4.out];rfl))))
  go_ret
  exact⟨rfl,hbl⟩
set_option maxRecDepth 100000 in
set_option maxHeartbeats 1000000 in
theorem BI5 (b:Nat) (w:World) (h:b<95):
    Calls Tryz.prog 206 #[.int .i64 3,.int .u8 b] w fun e w'=>e= .returned (.int .i64 (b))∧Below w.heap.size w w':=by
  have B1:=Lib.hid AD9
  have B2:=Lib.hid AF3
  have B3:=Lib.hid AG8
  have B4:=Lib.hid AG9
  generalize AF6=C at *
  have hbl:Below w.heap.size w (w.alloc (.cells C 332)):=(Below.refl _ _).alloc (Nat.le_refl _) _
  go_enter Tryz.func206,Tryz.ntmps206
  go_wp2_with (first|((with_reducible refine AD1 rfl 332 _ rfl AM9 C ?_ B1.out ?_);(focus rfl))|((with_reducible refine l9 rfl 332 _ _ rfl _ w.heap.size _ C rfl ?_ ?_ ?_ B2.out ?_ B3.out ?_);(focus rfl);(focus rfl);(focus rfl);(focus (rw[B4.out];rfl))))
  go_ret
  exact⟨rfl,hbl⟩
set_option maxRecDepth 100000 in
set_option maxHeartbeats 1000000 in
theorem BL0 (b:Nat) (w:World) (h:b=127):
    Calls Tryz.prog 206 #[.int .i64 3,.int .u8 b] w fun e w'=>e= .returned (.int .i64 (b))∧Below w.heap.size w w':=by
  have B1:=Lib.hid AD9
  have B2:=Lib.hid AF3
  have B3:=Lib.hid AG8
  have B4:=Lib.hid AG9
  generalize AF6=C at *
  have hbl:Below w.heap.size w (w.alloc (.cells C 332)):=(Below.refl _ _).alloc (Nat.le_refl _) _
  subst h
  go_enter Tryz.func206,Tryz.ntmps206
  go_wp2_with (first|((with_reducible refine AD1 rfl 332 _ rfl AM9 C ?_ B1.out ?_);(focus rfl))|((with_reducible refine l9 rfl 332 _ _ rfl _ w.heap.size _ C rfl ?_ ?_ ?_ B2.out ?_ B3.out ?_);(focus rfl);(focus rfl);(focus rfl);(focus (rw[B4.out];rfl))))
  go_ret
  exact⟨rfl,hbl⟩
set_option maxRecDepth 100000 in
set_option maxHeartbeats 1000000 in
theorem BC1 (p:Int) (b:Nat) (w:World) (_hb:b<256) (h2:¬p=2) (h3:¬p=3) (h4:¬p=4) (h:¬127<b):
    Calls Tryz.prog 206 #[.int .i64 p,.int .u8 b] w fun e w'=>e= .returned (.int .i64 (b))∧Below w.heap.size w w':=by
  have B1:=Lib.hid AD9
  have B2:=Lib.hid AF3
  have B3:=Lib.hid AG8
  have B4:=Lib.hid AG9
  generalize AF6=C at *
  have hbl:Below w.heap.size w (w.alloc (.cells C 332)):=(Below.refl _ _).alloc (Nat.le_refl _) _
  go_enter Tryz.func206,Tryz.ntmps206
  go_wp2_with (first|((with_reducible refine AD1 rfl 332 _ rfl AM9 C ?_ B1.out ?_);(focus rfl))|((with_reducible refine l9 rfl 332 _ _ rfl _ w.heap.size _ C rfl ?_ ?_ ?_ B2.out ?_ B3.out ?_);(focus rfl);(focus rfl);(focus rfl);(focus (rw[B4.out];rfl))))
  go_ret
  exact⟨rfl,hbl⟩
theorem BK0 (p:Int) (b:Nat) (w:World) (hb:b<256):
    Calls Tryz.prog 206 #[.int .i64 p,.int .u8 b] w fun e w'=>e= .returned (.int .i64 (AB6 p b))∧Below w.heap.size w w':=by
  by_cases h2:p=2
  · rw[show AB6 p b=b from by unfold AB6;rw[if_pos h2]];subst h2;exact Bn7 b w hb
  · by_cases h127:127<b
    · rw[show AB6 p b=65533 from by unfold AB6;rw[if_neg h2,if_pos h127]];exact BX5 p b w hb h2 h127
    · by_cases h4:p=4
      · by_cases h35:b=35
        · rw[show AB6 p b=163 from by unfold AB6;rw[if_neg h2,if_neg h127,if_pos ⟨h4,h35⟩]];subst h4;subst h35;exact BK8 w
        · rw[show AB6 p b=b from by unfold AB6;rw[if_neg h2,if_neg h127,if_neg (fun h=>h35 h.2),if_neg (by omega)]];subst h4;exact Bk9 b w hb h127 h35
      · by_cases h3:p=3
        · by_cases h95:95≤b∧b≤126
          · rw[show AB6 p b=AP9.getD (b-95) 0 from by unfold AB6;rw[if_neg h2,if_neg h127,if_neg (fun h=>h4 h.1),if_pos ⟨h3,h95⟩]]
            subst h3
            exact Bf0 b w h95.1 h95.2
          · rw[show AB6 p b=b from by unfold AB6;rw[if_neg h2,if_neg h127,if_neg (fun h=>h4 h.1),if_neg (fun h=>h95 h.2)]]
            subst h3
            rcases (show b<95∨b=127 by omega) with h|h
            · exact BI5 b w h
            · exact BL0 b w h
        · rw[show AB6 p b=b from by unfold AB6;rw[if_neg h2,if_neg h127,if_neg (fun h=>h4 h.1),if_neg (fun h=>h3 h.1)]];exact BC1 p b w hb h2 h3 h4 h127
set_option maxRecDepth 100000 in
theorem Av5 (p:Int) (w:World):
    Calls Tryz.prog 62 #[.int .i64 p] w fun e w'=>e= .returned (.bool (decide (1≤p∧p≤4)))∧w=w':=by
  by_cases h1:1≤p
  · by_cases h2:p≤4
    all_goals
      go_enter Tryz.func62,Tryz.ntmps62
      go_wp2
      go_ret
      exact⟨AT6 (by simp [h1,h2]),rfl⟩
  · go_enter Tryz.func62,Tryz.ntmps62
    go_wp2
    go_ret
    exact⟨AT6 (by simp;omega),rfl⟩
theorem BA1 (p:Int) (w:World) (h:1≤p∧p≤4):
    Calls Tryz.prog 62 #[.int .i64 p] w fun e w'=>e= .returned (.bool true)∧w=w':=
  (Av5 p w).mono fun e w' ⟨h1,h2⟩=>⟨by rw[h1];simp [h],h2⟩
end
section
open Go.RowKit Go.Fw
set_option maxRecDepth 100000 in
theorem Ax6 (p:Int) (b:Nat) (w:World) (hb:b<256) (hp:1≤p∧p≤4):
    Calls Tryz.prog 151 #[.int .i64 p,.int .u8 b] w fun e w'=>e= .returned (.tuple #[.int .i64 (AB6 p b),.int .i64 0])∧Below w.heap.size w w':=by
  go_enter Tryz.func151,Tryz.ntmps151
  go_wp2_with (go_at_call 62;refine(BA1 _ _ hp).mono ?_;rintro e w' ⟨rfl,rfl⟩)
  refine(BK0 p b _ hb).mono ?_
  rintro e w1 ⟨rfl,hb1⟩
  go_wp2_with fail
  go_ret2
  exact⟨rfl,hb1⟩
end
end Go.Proofs.YtmmnimagbnlcmaaGreatDoor
section
namespace Go.Sx
open Go Go.RowKit Go.Fw
section
variable {P:Program} {G:Ctx} {n:Sz} {Q:Post} {s:Fm} {H:List Ent}
/-- A region that draws its order and changes one row that is held: all else stands. -/
theorem AU4 {id:Nat} {l:List Oper} [h:Wide P] {a:Option Addr} {e:TypeId} {sz m c:Nat} {xs:List Value} {H':List Ent} [hp:PickOwn H a e sz m c xs H'] (hk:SOT P G n l.toArray Q H' l.length [] s H 0):SW P G n (.region id l.toArray true) Q s H:=V3 H' (fun _ hw=>(hw.pick hp.here).drop) hk
/-- The same, of a block. -/
theorem AA9 {id:Nat} {l:List Oper} [h:Wide P] {b:Nat} {t:TypeId} {cs:List Value} {H':List Ent} [hp:PickBlk H b t cs H'] (hk:SOT P G n l.toArray Q H' l.length [] s H 0):SW P G n (.region id l.toArray true) Q s H:=V3 H' (fun _ hw=>(hw.pick hp.here).drop) hk
end
end Go.Sx
namespace Go.Proofs.YtmmnimagbnlcmaaGreatDoor
open Go Go.RowKit Go.Fw Go.Sx
set_option maxRecDepth 100000
set_option maxHeartbeats 2000000
/-- A rune put where the cursor is. -/
def putS (s:Scr) (c:Int):Scr:={s with C:=rowC s.C s.w s.row.toNat (mendQ H5 (putQ H5 (rowQ s.w s.C s.row.toNat) s.col.toNat c s.pf s.pr s.pb)),col:=(if s.col+1>(s.w:Int)-1 then (s.w:Int)-1 else s.col+1),late:=decide (s.col+1>(s.w:Int)-1)}
/-- At the row's beginning. -/
def homeS (s:Scr):Scr:={s with late:=false,col:=0}
/-- Down by a row, or all up. -/
def V5 (s:Scr):Scr:=if s.row=s.bot-1 then upR s else downS s
/-- A rune printed. -/
def Ac0 (s:Scr) (c:Int):Scr:=if s.late=true then putS (V5 (homeS s)) c else putS s c
/-- A terminal that holds a screen, whatever lies past. -/
def TmP (G:Ctx) (K Kr:List Ent) (tb gb gn gc:Nat) (oa:Option Addr) (on oc:Nat) (t:ByteArray) (s:Scr) (v:Value) (H':List Ent):Prop:=
  ∃(E:List Ent) (pa':Option Addr) (pc':Nat) (X':List (Rx Qd)),v=resV []∧H'= .blk tb 158 (trmC s (some ⟨gb,0,none⟩) gn gc oa on oc pa' X'.length pc' t):: .own 97 4 (some ⟨gb,0,none⟩) gn gc (qds s.C)::(E++K)∧RdC G (E++Kr) pa' (X'.map rxV)∧RdX qds G (E++Kr) X'∧X'.map (·.2.2)=s.past∧CapC G (E++Kr) pa' X'.length pc'
attribute [local irreducible] SW SL SQ AtQ SV SC BB LD PK Yields SO SOT SOA SY
theorem AV3 (G:Ctx) (H:List Ent) (p:Int) (b:Nat) (hb:b<256) (hp:1≤p∧p≤4):SV Tryz.prog G 151 [.int .i64 p,.int .u8 b] H (.tuple #[.int .i64 (AB6 p b),.int .i64 0]):=
  AA4 (j6 Tryz.func151 rfl rfl) fun w _=>Ax6 p b w hb hp
theorem A86 (b:Nat) (hb:b<128):AB6 1 b=b:=by
  unfold AB6
  rw[if_neg (by decide),if_neg (by omega),if_neg (fun h=>absurd h.1 (by decide)),if_neg (fun h=>absurd h.1 (by decide))]
theorem Ad5 (G:Ctx) (H:List Ent) (C:List Qd) (b w h n c k col:Nat) (r x y z:Int) (hg:GrOk w h C) (hn:n=C.length) (hnc:n≤c) (hk:k<h) (hcol:col<w) (hcol2:H5 r=2→col+1<w):SC Tryz.prog G 157 [gridV w h (some ⟨b,0,none⟩) n c,.int .i64 k,.int .i64 col,.int .i64 r,penV x y z] (.own 97 4 (some ⟨b,0,none⟩) n c (qds C)::H) fun v H'=>v= .tuple #[]∧H'= .own 97 4 (some ⟨b,0,none⟩) n c (qds (rowC C w k (mendQ H5 (putQ H5 (rowQ w C k) col r x y z))))::H:=by
  have hr:=AN5 (w:=w) (h:=h) (k:=k) (n:=C.length) hk hg.len
  have hs:=hg.size
  have e:C.take (k * w)++rowQ w C k++C.drop (k * w+w)=C:=by
    unfold rowQ
    rw[List.append_assoc,←List.drop_drop,List.take_append_drop,List.take_append_drop]
  have:=Bc3 G H (C.take (k * w)) (rowQ w C k) (C.drop (k * w+w)) b w h n c k col r x y z (by rw[List.length_take];omega) (j5 hk hg.len) (by rw[e,hn]) (by rw[hn];exact hg.len1) hnc hs.1.1 (by omega) hcol hcol2
  rw[←AE2,←AE2,e,←AE2,←AE2] at this
  exact this
theorem AM6 (G:Ctx) (H:List Ent) (tb:Nat) (cs:List Value) (m0 m:Int) (h1:0≤m0∧m0≤2047) (h2:0≤m∧m≤2047) [hb:HasBlk H tb 158 cs] (hc:cs[11]? =some (.int .i64 m0)):SV Tryz.prog G 154 [.pointer (some ⟨tb,0,none⟩),.int .i64 m] H (.bool (iand m0 m !=0)):=by
  refine P7 Tryz.func154 rfl rfl rfl rfl rfl ?_
  repeat' (first|(apply F3;first|(apply C8;refine A8 ?_)|(apply C9;refine D8 rfl rfl ?_)|(apply E5;refine F5 rfl rfl rfl ?_;first|(apply AW4;refine A10 (by (omega)) (by (omega)) (by (omega)) (by (omega)) ?_)|refine F7 rfl ?_)|(apply F4;refine F8 rfl rfl ?_;refine G6 hc ?_)|(apply D6;refine D9 rfl rfl ?_)|(apply G7;refine G8 (E8 rfl rfl) rfl ?_)|(apply K8;refine M8 (H8 rfl rfl) rfl ?_))|(apply D7)|(apply H7)|(apply A7)|(apply D5))
  refine M3 (by (exact .inr rfl)) rfl N7 ?_
  rfl
theorem Bt8 (G:Ctx) (K Kr:List Ent) (s:Scr) (c:Int) (tb gb gn gc:Nat) (oa:Option Addr) (on oc:Nat) (pa:Option Addr) (pn pc:Nat) (t:ByteArray) (X:List (Rx Qd)) (hc:0≤c∧c≤127) (hw:H5 c=1) (hl:s.late=false) (hg:GrOk s.w s.h s.C) (hgn:gn=s.C.length) (hgc:gn≤gc) (hrow:0≤s.row∧s.row<s.h) (hcol:0≤s.col∧s.col<s.w) (hm2:0≤s.modes∧s.modes≤2047) (hmi:iand s.modes 1=0) (hmw:iand s.modes 4≠0) (hsh:s.sh=0) (hp0:s.p0=1)
    (hX:X.map (·.2.2)=s.past) (hr:RdX qds G Kr X) (hpn:pn=X.length):
    SC Tryz.prog G 105 [.pointer (some ⟨tb,0,none⟩),.int .i64 c] (.blk tb 158 (trmC s (some ⟨gb,0,none⟩) gn gc oa on oc pa pn pc t):: .own 97 4 (some ⟨gb,0,none⟩) gn gc (qds s.C):: .own 119 1 pa pn pc (X.map rxV)::K) (TmP G K Kr tb gb gn gc oa on oc t (putS s c)):=by
  have cP:=fun H=>AV3 G H 1 c.toNat (by omega) (by omega)
  rw[A86 _ (by omega),Int.toNat_of_nonneg hc.1] at cP
  have cW:=fun H=>AK6 G H c
  rw[hw] at cW
  have hm1:(iand s.modes 1 !=0)=false:=by rw[hmi];rfl
  have hm4:(iand s.modes 4 !=0)=true:=by simpa using hmw
  have cI1:=fun (H:List Ent) (cs:List Value) (_:HasBlk H tb 158 cs) (hc:cs[11]? =some (.int .i64 s.modes))=>AM6 G H tb cs s.modes 1 hm2 (by omega) hc
  have cI4:=fun (H:List Ent) (cs:List Value) (_:HasBlk H tb 158 cs) (hc:cs[11]? =some (.int .i64 s.modes))=>AM6 G H tb cs s.modes 4 hm2 (by omega) hc
  rw[hm1] at cI1
  rw[hm4] at cI4
  have cQ:=fun (H:List Ent)=>Ad5 G H s.C gb s.w s.h gn gc s.row.toNat s.col.toNat c s.pf s.pr s.pb hg hgn hgc (by omega) (by omega) (by intro h2;rw[hw] at h2;cases h2)
  rw[Int.toNat_of_nonneg hrow.1,Int.toNat_of_nonneg hcol.1] at cQ
  have hpu:(putS s c).C=rowC s.C s.w s.row.toNat (mendQ H5 (putQ H5 (rowQ s.w s.C s.row.toNat) s.col.toNat c s.pf s.pr s.pb)):=rfl
  unfold TmP
  rw[hpu]
  generalize rowC s.C s.w s.row.toNat (mendQ H5 (putQ H5 (rowQ s.w s.C s.row.toNat) s.col.toNat c s.pf s.pr s.pb))=C' at *
  have hs:=hg.size
  have hlt:Value.bool s.late= .bool false:=by rw[hl]
  have hshv:Value.int .i64 s.sh= .int .i64 0:=by rw[hsh]
  have hp0v:Value.int .i64 s.p0= .int .i64 1:=by rw[hp0]
  unfold trmC
  rw[hlt,hshv,hp0v]
  refine J3 Tryz.func105 rfl rfl rfl rfl rfl ?_
  repeat' (first|(apply F3;first|(apply C8;refine A8 ?_)|(apply C9;refine D8 rfl rfl ?_)|(apply E5;refine F5 rfl rfl rfl ?_;first|(apply M0;refine L9 ⟨by omega,by omega⟩ ?_)|refine F7 rfl ?_)|(apply F4;refine F8 rfl rfl ?_;refine G6 rfl ?_)|(apply I6;refine I9 rfl rfl ?_;first|(apply Q9;refine Q8 rfl ?_)|(apply O1;refine O3 rfl ?_))|(apply G7;refine G8 (E8 rfl rfl) rfl ?_)|(apply K8;refine M8 (H8 rfl rfl) rfl ?_)|(apply H6;first|refine F9 rfl rfl rfl (cI1 _ _ inferInstance rfl) rfl rfl ?_ |refine F9 rfl rfl rfl (cI4 _ _ inferInstance rfl) rfl rfl ?_ |(refine c_call rfl rfl rfl (AC0 PickOwn.here (cQ _)) rfl rfl ?_;rintro _ _ ⟨rfl,rfl⟩))|(apply H9;refine U3 rfl rfl rfl rfl rfl rfl rfl ?_)|(apply I1;refine J9 rfl rfl rfl rfl ?_;first|(apply I7)|(apply I5)|(apply E9<;>intro hq<;>(try (exfalso;omega)))))|(apply AN1;first|(apply AF4;refine AF2 ?_)|(apply AE3;refine AG6 rfl rfl ?_)|(apply AG3;refine AK5 rfl rfl rfl ?_;apply y9;refine AA2 ⟨by omega,by omega⟩ ?_)|(apply AE1;refine AE9 rfl rfl ?_;refine G6 rfl ?_)|(apply AG4;refine AK1 rfl rfl ?_)|(apply AJ6;refine AI8 (E8 rfl rfl) rfl ?_)|(apply Ap6;refine A78 (K7 rfl rfl rfl) rfl ?_)|(apply Af4;refine Am8 (AA5 (k:= .u8) rfl rfl ⟨by omega,by omega⟩) rfl ?_)|(apply AK0;refine AH6 (AB7 rfl rfl rfl (by omega) (by omega)) rfl ?_)|(apply AS3;refine AV9 (H8 rfl rfl) rfl ?_)|(apply An1;first|refine AM3 rfl rfl rfl (cP _) rfl rfl ?_ |refine AM3 rfl rfl rfl (cW _) rfl rfl ?_))|(apply U4;refine R5 (k:=0) I8 ?_)|(apply V6;first|(refine O9 rfl ?_)|(refine P8 rfl rfl rfl rfl (by kernel_rfl) (by decide+kernel) (by decide+kernel) ?_;first|(apply U5;refine I4 (V4 rfl rfl) ?_)|(apply U9;refine U6 rfl ?_;first|refine G6 rfl ?_ |refine L8 rfl rfl ?_)|(apply Q0;refine I4 (E8 rfl rfl) ?_)|(apply Y7;refine I4 (H8 rfl rfl) ?_))|(refine P9 rfl ?_)|(refine R4 (by decide+kernel) ?_)|(refine S9 (by kernel_rfl) ?_))|(apply X4;first|(refine T9 rfl)|(refine U7 (by decide+kernel) ?_)|(refine U0 rfl ?_ ?_))|(apply D7)|(apply G9)|((fail_if_success (refine K3 (id:=12) ?_));apply A7)|(refine G5 rfl ?_;first|(apply I5)|(apply E9<;>intro hq<;>(try (exfalso;omega))))|(apply D5)|(refine K3 (id:=13) ?_;refine AU4 (a:=some ⟨gb,0,none⟩) ?_)|((fail_if_success (refine K3 (id:=12) ?_));refine AC9 (by kernel_rfl) ?_))
  all_goals (skip)
  all_goals
    rename_i hq
    refine M9 _ (.inl rfl) rfl (fun _ hw=>hw) ⟨[.own 119 1 pa pn pc (X.map rxV)],pa,pc,X,rfl,?_,inferInstanceAs (RdC G (.own 119 1 pa pn pc (X.map rxV)::Kr) pa _),hr.cons,by rw[hX];rfl,by rw[←hpn];exact inferInstanceAs (CapC G (.own 119 1 pa pn pc (X.map rxV)::Kr) pa pn pc)⟩
    have e3:(putS s c).p0=1:=hp0
    have e4:(putS s c).sh=0:=hsh
    first
      | (have e1:(putS s c).col=(s.w:Int)-1:=if_pos hq
         have e2:(putS s c).late=true:=decide_eq_true hq
         rw[e1,e2,e3,e4,←hpn];rfl)
      | (have e1:(putS s c).col=s.col+1:=if_neg hq
         have e2:(putS s c).late=false:=decide_eq_false hq
         rw[e1,e2,e3,e4,←hpn];rfl)
theorem By7 (G:Ctx) (K Kr:List Ent) (s:Scr) (c:Int) (tb gb gn gc:Nat) (oa:Option Addr) (on oc:Nat) (pa:Option Addr) (pn pc:Nat) (t:ByteArray) (X:List (Rx Qd)) (hc:0≤c∧c≤127) (hw:H5 c=1) (hl:s.late=true) (hg:GrOk s.w s.h s.C) (hgn:gn=s.C.length) (hgc:gn≤gc) (hrow:0≤s.row∧s.row<s.h) (hm2:0≤s.modes∧s.modes≤2047) (hmi:iand s.modes 1=0) (hmw:iand s.modes 4≠0) (hmo:iand s.modes 256=0) (hsh:s.sh=0) (hp0:s.p0=1)
    (hpen:penB 0 0 s.pb=true) (ht:s.top=0) (hb:s.bot=s.h) (hX:X.map (·.2.2)=s.past) (hr:RdX qds G Kr X) (hpn:pn=X.length) (hpl:pn≤40):
    SC Tryz.prog G 105 [.pointer (some ⟨tb,0,none⟩),.int .i64 c] (.blk tb 158 (trmC s (some ⟨gb,0,none⟩) gn gc oa on oc pa pn pc t):: .own 97 4 (some ⟨gb,0,none⟩) gn gc (qds s.C):: .own 119 1 pa pn pc (X.map rxV)::K) (TmP G K Kr tb gb gn gc oa on oc t (putS (V5 (homeS s)) c)):=by
  have hs:=hg.size
  have cP:=fun H=>AV3 G H 1 c.toNat (by omega) (by omega)
  rw[A86 _ (by omega),Int.toNat_of_nonneg hc.1] at cP
  have cW:=fun H=>AK6 G H c
  rw[hw] at cW
  have hpg:∀cs:List Value,cs[16]? =some (.int .i64 s.p0)→cs[16+s.sh.toNat * 1]? =some (.int .i64 1):=fun cs h=>by rw[hsh];rw[hp0] at h;exact h
  have hcl:l6 0 0 ((s.w:Int)-1)=0:=by unfold l6;omega
  have cC:=fun H=>AR2 G H s 0 tb (some ⟨gb,0,none⟩) gn gc oa on oc pa pn pc t (by omega)
  rw[hcl,show ({s with late:=false,col:=0}:Scr)=homeS s from rfl] at cC
  --down by a row,or all up
  have cX:SC Tryz.prog G 153 [.pointer (some ⟨tb,0,none⟩)] (.blk tb 158 (trmC (homeS s) (some ⟨gb,0,none⟩) gn gc oa on oc pa pn pc t):: .own 97 4 (some ⟨gb,0,none⟩) gn gc (qds s.C):: .own 119 1 pa pn pc (X.map rxV)::K) (TmP G K Kr tb gb gn gc oa on oc t (V5 (homeS s))):=by
    by_cases h1:s.row=s.bot-1
    · have e:V5 (homeS s)=upR (homeS s):=if_pos h1
      rw[e]
      exact BD6 G K Kr (homeS s) tb gb gc oa on oc pa pn pc t X hg gn hgn hgc h1 ht (by show 1≤s.bot∧s.bot≤(s.h:Int);omega) hmo hm2 hX hr hpn hpl
    · have e:V5 (homeS s)=downS (homeS s):=if_neg h1
      rw[e]
      refine(BD0 G (.own 97 4 (some ⟨gb,0,none⟩) gn gc (qds s.C):: .own 119 1 pa pn pc (X.map rxV)::K) (homeS s) tb (some ⟨gb,0,none⟩) gn gc oa on oc pa pn pc t h1 (by show 0≤s.row∧s.row<(s.h:Int)-1;omega) hs.2.2 (by show 0≤s.bot∧s.bot≤1000;omega)).mono ?_
      rintro v H' ⟨rfl,rfl⟩
      exact⟨[.own 119 1 pa pn pc (X.map rxV)],pa,pc,X,rfl,by rw[←hpn];rfl,inferInstanceAs (RdC G (.own 119 1 pa pn pc (X.map rxV)::Kr) pa _),hr.cons,by rw[hX];rfl,by rw[←hpn];exact inferInstanceAs (CapC G (.own 119 1 pa pn pc (X.map rxV)::Kr) pa pn pc)⟩
  --what it is then
  have f1:(V5 (homeS s)).late=false:=by unfold V5;split<;>rfl
  have f2:(V5 (homeS s)).col=0:=by unfold V5;split<;>rfl
  have f3:(V5 (homeS s)).modes=s.modes:=by unfold V5;split<;>rfl
  have f4:(V5 (homeS s)).sh=0:=by rw[←hsh];unfold V5;split<;>rfl
  have f5:(V5 (homeS s)).p0=1:=by rw[←hp0];unfold V5;split<;>rfl
  have f6:(V5 (homeS s)).w=s.w∧(V5 (homeS s)).h=s.h:=by unfold V5;split<;>exact⟨rfl,rfl⟩
  have f7:GrOk s.w s.h (V5 (homeS s)).C:=by
    unfold V5
    split
    · exact hg.scroll 1 0 0 s.pb (by show s.bot.toNat≤s.h;omega) hpen
    · exact hg
  have f8:0≤(V5 (homeS s)).row∧(V5 (homeS s)).row<s.h:=by
    unfold V5
    split
    · exact hrow
    · rename_i h1
      show 0≤s.row+1∧s.row+1<(s.h:Int)
      have h1:¬s.row=s.bot-1:=h1
      omega
  generalize V5 (homeS s)=s2 at *
  obtain⟨f6a,f6b⟩:=f6
  rw[←f6a,←f6b] at f7
  rw[←f6b] at f8
  have hgn2:gn=s2.C.length:=by rw[hgn,hg.len,f7.len,f6a,f6b]
  have hm1:(iand s2.modes 1 !=0)=false:=by rw[f3,hmi];rfl
  have hm4:(iand s2.modes 4 !=0)=true:=by rw[f3];simpa using hmw
  have hm22:0≤s2.modes∧s2.modes≤2047:=by rw[f3];exact hm2
  have cI1:=fun (H:List Ent) (cs:List Value) (_:HasBlk H tb 158 cs) (hc:cs[11]? =some (.int .i64 s2.modes))=>AM6 G H tb cs s2.modes 1 hm22 (by omega) hc
  have cI4:=fun (H:List Ent) (cs:List Value) (_:HasBlk H tb 158 cs) (hc:cs[11]? =some (.int .i64 s2.modes))=>AM6 G H tb cs s2.modes 4 hm22 (by omega) hc
  rw[hm1] at cI1
  rw[hm4] at cI4
  have cQ:=fun (H:List Ent)=>Ad5 G H s2.C gb s2.w s2.h gn gc s2.row.toNat s2.col.toNat c s2.pf s2.pr s2.pb f7 hgn2 hgc (by omega) (by omega) (by intro h2;rw[hw] at h2;cases h2)
  rw[Int.toNat_of_nonneg f8.1,f2] at cQ
  have hpu:(putS s2 c).C=rowC s2.C s2.w s2.row.toNat (mendQ H5 (putQ H5 (rowQ s2.w s2.C s2.row.toNat) s2.col.toNat c s2.pf s2.pr s2.pb)):=rfl
  rw[f2] at hpu
  refine J3 Tryz.func105 rfl rfl rfl rfl rfl ?_
  repeat' (first|(apply F3;first|(apply C8;refine A8 ?_)|(apply C9;refine D8 rfl rfl ?_)|(apply E5;refine F5 rfl rfl rfl ?_;refine F7 rfl ?_)|(apply F4;refine F8 rfl rfl ?_;refine G6 rfl ?_)|(apply I6;refine I9 rfl rfl ?_;first|(apply Q9;refine Q8 rfl ?_)|(apply O1;refine O3 rfl ?_))|(apply G7;refine G8 (E8 rfl rfl) rfl ?_)|(apply K8;refine M8 (H8 rfl rfl) rfl ?_)|(apply H6;first|(refine c_call rfl rfl rfl (cC _) rfl rfl ?_;rintro _ _ ⟨rfl,rfl⟩)|(refine c_call rfl rfl rfl cX rfl rfl ?_;rintro _ _ ⟨E,pa2,pc2,X2,rfl,rfl,r1,r2,r3,r4⟩))|(apply I1;refine J9 rfl rfl rfl rfl ?_;first|(apply I7)|(apply E9<;>intro hq<;>(try (exfalso;omega)))))|(apply AN1;first|(apply AF4;refine AF2 ?_)|(apply AE3;refine AG6 rfl rfl ?_)|(apply AG3;refine AK5 rfl rfl rfl ?_;apply y9;refine AA2 ⟨by omega,by omega⟩ ?_)|(apply AE1;first|(refine AE9 rfl rfl ?_;refine G6 rfl ?_)|(refine AE9 rfl rfl ?_;refine G6 (hpg _ rfl) ?_))|(apply AG4;refine AK1 rfl rfl ?_)|(apply AJ6;refine AI8 (E8 rfl rfl) rfl ?_)|(apply Ap6;refine A78 (K7 rfl rfl rfl) rfl ?_)|(apply Af4;refine Am8 (AA5 (k:= .u8) rfl rfl ⟨by omega,by omega⟩) rfl ?_)|(apply AK0;refine AH6 (AB7 rfl rfl rfl (by omega) (by omega)) rfl ?_)|(apply AS3;refine AV9 (H8 rfl rfl) rfl ?_)|(apply An1;first|refine AM3 rfl rfl rfl (cP _) rfl rfl ?_ |refine AM3 rfl rfl rfl (cW _) rfl rfl ?_))|(apply D7)|(apply G9)|((fail_if_success (refine K3 (id:=7) ?_));apply A7)|(refine G5 rfl ?_;first|(apply E9<;>intro hq<;>(try (exfalso;omega)))|(apply Ai9<;>intro hq))|(apply D5)|((fail_if_success (refine K3 (id:=7) ?_));refine AC9 (by kernel_rfl) ?_))
  · clear cC cX cP cW hpg hcl
    have hlt:Value.bool s2.late= .bool false:=by rw[f1]
    have hshv:Value.int .i64 s2.sh= .int .i64 0:=by rw[f4]
    have hp0v:Value.int .i64 s2.p0= .int .i64 1:=by rw[f5]
    have hcv:Value.int .i64 s2.col= .int .i64 0:=by rw[f2]
    have hcolu:(putS s2 c).col=if (0:Int)+1>(s2.w:Int)-1 then (s2.w:Int)-1 else 0+1:=by unfold putS;dsimp only;rw[f2]
    have hlatu:(putS s2 c).late=decide ((0:Int)+1>(s2.w:Int)-1):=by unfold putS;dsimp only;rw[f2]
    have e3:(putS s2 c).p0=1:=f5
    have e4:(putS s2 c).sh=0:=f4
    have hpast:(putS s2 c).past=s2.past:=rfl
    unfold TmP
    rw[hpu]
    generalize rowC s2.C s2.w s2.row.toNat (mendQ H5 (putQ H5 (rowQ s2.w s2.C s2.row.toNat) (0:Int).toNat c s2.pf s2.pr s2.pb))=C' at *
    have hsv:(s.w:Int)=s2.w:=by rw[f6a]
    rw[hsv]
    unfold trmC
    rw[hlt,hshv,hp0v,hcv]
    repeat' (first|(apply F3;first|(apply C8;refine A8 ?_)|(apply C9;refine D8 rfl rfl ?_)|(apply E5;refine F5 rfl rfl rfl ?_;first|(apply M0;refine L9 ⟨by omega,by omega⟩ ?_)|refine F7 rfl ?_)|(apply F4;refine F8 rfl rfl ?_;refine G6 rfl ?_)|(apply I6;refine I9 rfl rfl ?_;apply O1;refine O3 rfl ?_)|(apply G7;refine G8 (E8 rfl rfl) rfl ?_)|(apply K8;refine M8 (H8 rfl rfl) rfl ?_)|(apply H6;first|refine F9 rfl rfl rfl (cI1 _ _ inferInstance rfl) rfl rfl ?_ |refine F9 rfl rfl rfl (cI4 _ _ inferInstance rfl) rfl rfl ?_ |(refine c_call rfl rfl rfl (AC0 PickOwn.here (cQ _)) rfl rfl ?_;rintro _ _ ⟨rfl,rfl⟩))|(apply H9;refine U3 rfl rfl rfl rfl rfl rfl rfl ?_)|(apply I1;refine J9 rfl rfl rfl rfl ?_;apply I5))|(apply U4;refine R5 (k:=0) I8 ?_)|(apply V6;first|(refine O9 rfl ?_)|(refine P8 rfl rfl rfl rfl (by kernel_rfl) (by decide+kernel) (by decide+kernel) ?_;first|(apply U5;refine I4 (V4 rfl rfl) ?_)|(apply U9;refine U6 rfl ?_;first|refine G6 rfl ?_ |refine L8 rfl rfl ?_)|(apply Q0;refine I4 (E8 rfl rfl) ?_)|(apply Y7;refine I4 (H8 rfl rfl) ?_))|(refine P9 rfl ?_)|(refine R4 (by decide+kernel) ?_)|(refine S9 (by kernel_rfl) ?_))|(apply X4;first|(refine T9 rfl)|(refine U7 (by decide+kernel) ?_)|(refine U0 rfl ?_ ?_))|(apply D7)|(apply G9)|(apply A7)|(refine G5 rfl ?_;first|(apply I5)|(apply E9<;>intro hq<;>(try (exfalso;omega))))|(apply D5)|(refine K3 (id:=13) ?_;refine AU4 (a:=some ⟨gb,0,none⟩) ?_))
    all_goals (skip)
    all_goals
      rename_i hq
      refine M9 _ (.inl rfl) rfl (fun _ hw=>hw) ⟨E,pa2,pc2,X2,rfl,?_,r1,r2,r3,r4⟩
      rw[hcolu,hlatu]
      first
        | (have h0:(0:Int)+1>(s2.w:Int)-1:=hq
           rw[if_pos h0,decide_eq_true h0,e3,e4];rfl)
        | (have h0:¬(0:Int)+1>(s2.w:Int)-1:=hq
           rw[if_neg h0,decide_eq_false h0,e3,e4];rfl)
  · exact absurd (hl.symm.trans hq) (by decide)
end Go.Proofs.YtmmnimagbnlcmaaGreatDoor
end
namespace Go.Proofs.YtmmnimagbnlcmaaGreatDoor
open Go Go.RowKit Go.Fw Go.Sx
set_option maxRecDepth 100000
section
set_option maxHeartbeats 1000000
/-- An act: kind, code, mark, inter, args, text. -/
abbrev Ac:=Int×Int×Int×ByteArray×Rx Int×ByteArray
def acC (x:Ac):List Value:=[.int .i64 x.1,.int .i64 x.2.1,.int .i64 x.2.2.1,.string x.2.2.2.1,.slice x.2.2.2.2.1.1 x.2.2.2.2.1.2.2.length x.2.2.2.2.1.2.1,.string x.2.2.2.2.2]
abbrev acV (k c m:Int) (i:ByteArray) (a:Option Addr) (n cp:Nat) (t:ByteArray):Value:= .agg #[.int .i64 k,.int .i64 c,.int .i64 m,.string i,.slice a n cp,.string t]
instance :En acC 6:=⟨fun _=>rfl⟩
def acs (X:List Ac):List Value:=X.flatMap acC
theorem Af8 (L:List Ac):(acs L).length=L.length * 6:=AQ0 L
theorem Bl6 (L:List Ac) (x:Ac):acs (L++[x])=acs L++acC x:=BG3 L x
theorem B23 (L:List Ac):(acs L).all (·.oneCell')=true:=BZ2 L fun _=>rfl
abbrev nA:Rx Int:=(none,0,[])
abbrev e0:ByteArray:=⟨#[]⟩
abbrev dA:Ac:=(6,0,0,e0,nA,e0)
/-- The act that final emits. -/
def finA (i:ByteArray) (y:Ac):Ac:=if i.size=3 then dA else y
def moreU (i:ByteArray) (x:Int):ByteArray:=if i.size<3 then i++strOfNums [x] else i
def argU (g:ByteArray) (x:Int):ByteArray:=if g.size<100 then g++strOfNums [x] else g
/-- A parser: state, mark, inter, args, text. -/
abbrev Ps:=Int×Int×ByteArray×ByteArray×ByteArray
/-- What a machine holds. -/
def mcH (b:Nat) (p:Ps) (X:List Ac) (a:Option Addr) (c:Nat) (K:List Ent):List Ent:=
  .blk b 152 [.int .i64 p.1,.int .i64 p.2.1,.string p.2.2.1,.string p.2.2.2.1,.string p.2.2.2.2,.slice a X.length c]:: .own 160 6 a X.length c (acs X)::K
attribute [local irreducible] SW SL SQ AtQ SV SC BB LD PK Yields SO SOT SOA SY SP SPT SPA
theorem AH5 (G:Ctx) (K:List Ent) (b:Nat) (s m:Int) (i g t:ByteArray) (X:List Ac) (a:Option Addr) (c:Nat) (k cd mk:Int) (it:ByteArray) (r:Rx Int) (tx:ByteArray) (hX:X.length≤10000000):SC Tryz.prog G 97 [.pointer (some ⟨b,0,none⟩),acV k cd mk it r.1 r.2.2.length r.2.1 tx] (mcH b (s,m,i,g,t) X a c K) (fun v H'=>∃a' c',v=resV []∧H'=mcH b (s,m,i,g,t) (X++[(k,cd,mk,it,r,tx)]) a' c' K):=by
  have hlx:=Af8 X
  have hone:=B23 X
  unfold mcH
  dsimp only
  rw[Bl6,List.length_append,show [(k,cd,mk,it,r,tx)].length=1 from rfl]
  generalize acs X=vs at *
  generalize X.length=n at *
  refine J3 Tryz.func97 rfl rfl rfl rfl rfl ?_
  repeat' (first|(apply F3;first|(apply C8;refine A8 ?_)|(apply K9;refine O5 rfl rfl rfl rfl rfl rfl (fun _=>?_)))|(apply D7)|((fail_if_success (refine K3 (id:=1) ?_));apply A7)|(apply D5))
  rename_i bx
  refine AX9 8 (.blk bx 160 [.int .i64 k,.int .i64 cd,.int .i64 mk,.string it,.slice r.1 r.2.2.length r.2.1,.string tx]:: .blk b 152 [.int .i64 s,.int .i64 m,.string i,.string g,.string t,.slice a n c]::K) (.blk bx 160 [.int .i64 k,.int .i64 cd,.int .i64 mk,.string it,.slice r.1 r.2.2.length r.2.1,.string tx]::K) I8 rfl ?_
  repeat' (first|(apply F3;first|(apply C8;refine A8 ?_)|(apply K8;refine M8 (H8 rfl rfl) rfl ?_)|(apply J5;refine R6 rfl rfl rfl rfl (by (rfl)) (by (rfl)) (by omega) rfl rfl (fun _ _=>?_))|(apply H9;refine U3 rfl rfl rfl rfl rfl rfl rfl ?_)|(apply V8;refine Ae5 rfl rfl rfl rfl rfl rfl rfl rfl rfl (fun _=>?_)))|(apply U4;refine R5 (k:=0) I8 ?_)|(apply A71;refine Ap2 (k:=0) I8 ?_)|(apply V6;first|(refine O9 rfl ?_)|(refine P8 rfl rfl rfl rfl (by kernel_rfl) (by decide+kernel) (by decide+kernel) ?_;apply Q0;refine I4 (E8 rfl rfl) ?_)|(refine P9 rfl ?_)|(refine R4 (by decide+kernel) ?_)|(refine S9 (by kernel_rfl) ?_))|(apply X4;first|(refine T9 rfl)|(refine U7 (by decide+kernel) ?_)|(refine U0 rfl ?_ ?_))|(apply An8;first|(refine Aj6 rfl ?_)|(refine AT1 rfl rfl rfl rfl (by kernel_rfl) (by decide+kernel) (by decide+kernel) (by decide+kernel) ?_;first|(apply U5;refine I4 (V4 rfl rfl) ?_)|(apply U9;refine U6 rfl ?_;first|refine G6 rfl ?_ |refine K5 rfl ?_)|(apply Q0;refine I4 (E8 rfl rfl) ?_)|(apply Y7;refine I4 (H8 rfl rfl) ?_))|(refine AS9 rfl ?_)|(refine AX2 (by kernel_rfl) ?_))|(apply Ak3;first|(refine AV6 rfl)|(refine Ab2 (by decide+kernel) ?_)|(refine Ac8 rfl rfl ?_ ?_)|(refine Ap8 rfl rfl ?_ ?_)))
  rename_i b2 a2 c2
  exact M9 (.blk b 152 [.int .i64 s,.int .i64 m,.string i,.string g,.string t,.slice a2 (n+1) c2]:: .own 160 6 a2 (n+1) c2 (vs++acC (k,cd,mk,it,r,tx))::K) (.inl rfl) rfl I8 ⟨a2,c2,rfl,rfl⟩
theorem AQ6 (G:Ctx) (K:List Ent) (b:Nat) (s m:Int) (i g t:ByteArray) (X:List Ac) (a:Option Addr) (c:Nat) (n:Int):SC Tryz.prog G 98 [.pointer (some ⟨b,0,none⟩),.int .i64 n] (mcH b (s,m,i,g,t) X a c K) (fun v H'=>v=resV []∧H'=mcH b (n,0,e0,e0,e0) X a c K):=by
  unfold mcH
  dsimp only
  refine J3 Tryz.func98 rfl rfl rfl rfl rfl ?_
  repeat' (first|(apply F3;first|(apply C8;refine A8 ?_)|(apply C9;refine D8 rfl rfl ?_)|(apply G7;refine G8 (E8 rfl rfl) rfl ?_)|(apply P5;refine R7 (O6 rfl rfl rfl) rfl ?_)|(apply K8;refine M8 (H8 rfl rfl) rfl ?_)|(apply H9;refine AO8 (off:=0) rfl rfl rfl rfl rfl rfl (Nat.le_of_ble_eq_true rfl) rfl ?_))|(apply A7))
  exact M9 (.blk b 152 [.int .i64 n,.int .i64 0,.string e0,.string e0,.string e0,.slice a X.length c]:: .own 160 6 a X.length c (acs X)::K) (.inl rfl) rfl I8 ⟨rfl,rfl⟩
theorem BI4 (G:Ctx) (K:List Ent) (b:Nat) (s m:Int) (i g t:ByteArray) (X:List Ac) (a:Option Addr) (c:Nat):SC Tryz.prog G 149 [.pointer (some ⟨b,0,none⟩)] (mcH b (s,m,i,g,t) X a c K) (fun v H'=>v=resV []∧H'=mcH b (6,0,e0,e0,e0) X a c K):=by
  unfold mcH
  dsimp only
  refine Y3 Tryz.func149 rfl rfl rfl rfl rfl ?_
  repeat' (first|(apply F3;first|(apply C8;refine A8 ?_)|(apply C9;refine D8 rfl rfl ?_)|(apply G7;refine G8 (E8 rfl rfl) rfl ?_)|(apply P5;refine R7 (O6 rfl rfl rfl) rfl ?_)|(apply K8;refine M8 (H8 rfl rfl) rfl ?_)|(apply H9;refine AO8 (off:=0) rfl rfl rfl rfl rfl rfl (Nat.le_of_ble_eq_true rfl) rfl ?_))|(apply A7))
  exact M9 (.blk b 152 [.int .i64 6,.int .i64 0,.string e0,.string e0,.string e0,.slice a X.length c]:: .own 160 6 a X.length c (acs X)::K) (.inl rfl) rfl I8 ⟨rfl,rfl⟩
theorem AN3 (G:Ctx) (H:List Ent) (n l h:Int):SV Tryz.prog G 94 [.int .i64 n,.int .i64 l,.int .i64 h] H (.bool (decide (l≤n∧n≤h))):=by
  refine AC6 Tryz.func94 rfl rfl rfl rfl rfl ?_
  repeat' (first|(apply F3;first|(apply C8;refine A8 ?_)|(apply C9;refine D8 rfl rfl ?_)|(apply E5;refine F5 rfl rfl rfl ?_;refine F7 rfl ?_)|(apply D6;refine D9 rfl rfl ?_)|(apply I6;refine I9 rfl rfl ?_;first|(apply Q9;refine Q8 rfl ?_)|(apply O1;refine O3 rfl ?_))|(apply I1;refine J9 rfl rfl rfl rfl ?_;first|(apply I7)|(apply I5)|(apply E9<;>intro hq<;>(try (exfalso;omega)))))|(apply D7)|(apply H7)|(apply A7)|(apply D5))
  all_goals refine M3 (by (exact .inr rfl)) rfl N7 ?_
  · exact congrArg Value.bool (decide_eq_decide.2 ⟨fun h2=>⟨hq,h2⟩,fun h2=>h2.2⟩)
  · exact congrArg Value.bool (decide_eq_false (fun h2=>hq h2.1)).symm
theorem AT2 (G:Ctx) (K:List Ent) (b:Nat) (s m:Int) (i g t:ByteArray) (X:List Ac) (a:Option Addr) (c:Nat) (n:Int) (hX:X.length≤10000000):SC Tryz.prog G 99 [.pointer (some ⟨b,0,none⟩),.int .i64 n] (mcH b (s,m,i,g,t) X a c K) (fun v H'=>∃a' c',v=resV []∧H'=mcH b (n,0,e0,e0,e0) (X++[(6,0,0,e0,nA,e0)]) a' c' K):=by
  have c1:=AH5 G K b s m i g t X a c 6 0 0 e0 nA e0 hX
  have c2:=fun a c=>AQ6 G K b s m i g t (X++[(6,0,0,e0,nA,e0)]) a c n
  refine J3 Tryz.func99 rfl rfl rfl rfl rfl ?_
  repeat' (first|(apply F3;first|(apply C8;refine A8 ?_)|(apply C9;refine D8 rfl rfl ?_)|(apply P5;refine R7 (O6 rfl rfl rfl) rfl ?_)|(apply H6;first|(refine c_call rfl rfl rfl c1 rfl rfl ?_;rintro _ _ ⟨a1,k1,rfl,rfl⟩)|(refine c_call rfl rfl rfl (c2 _ _) rfl rfl ?_;rintro _ _ ⟨rfl,rfl⟩)))|(apply D7)|(apply A7)|(apply D5))
  exact M9 _ (.inl rfl) rfl (fun _ hw=>hw) ⟨a1,k1,rfl,rfl⟩
theorem Ad3 (G:Ctx) (K:List Ent) (b:Nat) (s m:Int) (i g t:ByteArray) (X:List Ac) (a:Option Addr) (c:Nat) (k cd mk:Int) (it:ByteArray) (r:Rx Int) (tx:ByteArray) (hX:X.length≤10000000):SC Tryz.prog G 148 [.pointer (some ⟨b,0,none⟩),acV k cd mk it r.1 r.2.2.length r.2.1 tx] (mcH b (s,m,i,g,t) X a c K) (fun v H'=>∃a' c',v=resV []∧H'=mcH b (0,0,e0,e0,e0) (X++[finA i (k,cd,mk,it,r,tx)]) a' c' K):=by
  have c1:=fun K=>AH5 G K b s m i g t X a c 6 0 0 e0 nA e0 hX
  have c2:=fun K=>AH5 G K b s m i g t X a c k cd mk it r tx hX
  have c3:=fun K X a c=>AQ6 G K b s m i g t X a c 0
  unfold mcH at *
  dsimp only at *
  refine J3 Tryz.func148 rfl rfl rfl rfl rfl ?_
  repeat' (first|(apply F3;first|(apply C8;refine A8 ?_)|(apply C9;refine D8 rfl rfl ?_)|(apply E5;refine F5 rfl rfl rfl ?_;refine F7 rfl ?_)|(apply F4;refine F8 rfl rfl ?_;first|refine G6 rfl ?_ |refine K5 rfl ?_)|(apply G7;refine G8 (E8 rfl rfl) rfl ?_)|(apply P5;refine R7 (O6 rfl rfl rfl) rfl ?_)|(apply K8;refine M8 (H8 rfl rfl) rfl ?_)|(apply H6;first|(refine AV7 (fun _ hw=>hw.drop) ?_;first|(refine c_call rfl rfl rfl (c1 _) rfl rfl ?_;rintro _ _ ⟨a1,k1,rfl,rfl⟩)|(refine c_call rfl rfl rfl (c2 _) rfl rfl ?_;rintro _ _ ⟨a1,k1,rfl,rfl⟩))|(refine c_call rfl rfl rfl (c3 _ _ _ _) rfl rfl ?_;rintro _ _ ⟨rfl,rfl⟩))|(apply J5;refine s_call (Q3 rfl rfl) rfl ?_)|(apply H9;refine M6 rfl rfl rfl rfl rfl rfl rfl rfl ?_)|(apply K9;refine O5 rfl rfl rfl rfl rfl rfl (fun _=>?_)))|(apply D7)|(apply G9)|(apply A7)|(refine G5 rfl ?_;apply E9<;>intro hq<;>(try (exfalso;omega)))|(apply D5))
  · unfold finA
    rw[if_pos (by omega)]
    exact M9 _ (.inl rfl) rfl (fun _ hw=>hw) ⟨_,_,rfl,rfl⟩
  · unfold finA
    rw[if_neg (by omega)]
    exact M9 _ (.inl rfl) rfl (fun _ hw=>hw) ⟨_,_,rfl,rfl⟩
theorem A48 (G:Ctx) (K:List Ent) (b:Nat) (s m:Int) (i g t:ByteArray) (X:List Ac) (a:Option Addr) (c:Nat) (x:Int) (hx:0≤x∧x≤127):SC Tryz.prog G 147 [.pointer (some ⟨b,0,none⟩),.int .i64 x] (mcH b (s,m,i,g,t) X a c K) (fun v H'=>v=resV []∧H'=mcH b (s,m,moreU i x,g,t) X a c K):=by
  unfold mcH
  dsimp only
  have hcat:∀(i:ByteArray),i.size<3→i.size+(strOfNums [x]).size≤9223372036854775807:=fun i h=>by rw[strOfNums_size];simp;omega
  refine J3 Tryz.func147 rfl rfl rfl rfl rfl ?_
  repeat' (first|(apply F3;first|(apply C8;refine A8 ?_)|(apply C9;refine D8 rfl rfl ?_)|(apply E5;refine F5 rfl rfl rfl ?_;first|(refine AW6 (hcat _ (by omega)) ?_)|(refine F7 rfl ?_))|(apply F4;refine F8 rfl rfl ?_;refine G6 rfl ?_)|(apply G7;refine G8 (E8 rfl rfl) rfl ?_)|(apply p8;first|(refine x9 (AA5 (k:= .i32) rfl rfl ⟨by omega,by omega⟩) rfl ?_)|(refine x9 (Ax7 rfl rfl (by omega) (by omega)) rfl ?_))|(apply K8;refine M8 (H8 rfl rfl) rfl ?_)|(apply J5;refine s_call (Q3 rfl rfl) rfl ?_)|(apply H9;refine U3 rfl rfl rfl rfl rfl rfl rfl ?_))|(apply D7)|(apply G9)|(apply A7)|(refine G5 rfl ?_;apply E9<;>intro hq<;>(try (exfalso;omega)))|(apply D5))
  · unfold moreU
    rw[if_pos (by omega)]
    exact M9 _ (.inl rfl) rfl (fun _ hw=>hw) ⟨rfl,rfl⟩
  · unfold moreU
    rw[if_neg (by omega)]
    exact M9 _ (.inl rfl) rfl (fun _ hw=>hw) ⟨rfl,rfl⟩
end
section
set_option maxHeartbeats 2000000
/-- What a fresh screen keeps, whatever is typed: its size, its modes, its pages. -/
structure Pln (s:Scr):Prop where
  g:GrOk s.w s.h s.C
  row:0≤s.row∧s.row<s.h
  col:0≤s.col∧s.col<s.w
  modes:s.modes=12
  sh:s.sh=0
  p0:s.p0=1
  pen:penB s.pf s.pr s.pb=true∧penB 0 0 s.pb=true
  top:s.top=0
  bot:s.bot=s.h
  past:s.past.length≤40
theorem m12:iand 12 1=0∧iand 12 4=4∧iand 12 256=0∧iand 12 128=0:=by
  refine⟨?_,?_,?_,?_⟩<;>(rw[AP1];decide)
theorem BM3:penB 0 0 0=true:=by decide+kernel
attribute [local irreducible] SW SL SQ AtQ SV SC BB LD PK Yields SO SOT SOA SY
/-- What a terminal holds ahead of an act. -/
def tmH (tb gb gn gc:Nat) (oa:Option Addr) (on oc:Nat) (pa:Option Addr) (pn pc:Nat) (t:ByteArray) (X:List (Rx Qd)) (s:Scr) (K:List Ent):List Ent:=
  .blk tb 158 (trmC s (some ⟨gb,0,none⟩) gn gc oa on oc pa pn pc t):: .own 97 4 (some ⟨gb,0,none⟩) gn gc (qds s.C):: .own 119 1 pa pn pc (X.map rxV)::K
theorem Bi0 (G:Ctx) (K Kr:List Ent) (s:Scr) (tb gb gn gc:Nat) (oa:Option Addr) (on oc:Nat) (pa:Option Addr) (pn pc:Nat) (t:ByteArray) (X:List (Rx Qd)) (hs:Pln s) (hgn:gn=s.C.length) (hgc:gn≤gc) (hX:X.map (·.2.2)=s.past) (hr:RdX qds G Kr X) (hpn:pn=X.length):
    SC Tryz.prog G 153 [.pointer (some ⟨tb,0,none⟩)] (tmH tb gb gn gc oa on oc pa pn pc t X s K) (TmP G K Kr tb gb gn gc oa on oc t (V5 s)):=by
  have hz:=hs.g.size
  have hpl:pn≤40:=by rw[hpn];have:=congrArg List.length hX;rw[List.length_map] at this;rw[this];exact hs.past
  have hbb:=hs.bot
  have hro:=hs.row
  unfold tmH
  by_cases h1:s.row=s.bot-1
  · have e:V5 s=upR s:=if_pos h1
    rw[e]
    exact BD6 G K Kr s tb gb gc oa on oc pa pn pc t X hs.g gn hgn hgc h1 hs.top (by omega) (by rw[hs.modes];exact m12.2.2.1) (by rw[hs.modes];decide) hX hr hpn hpl
  · have e:V5 s=downS s:=if_neg h1
    rw[e]
    refine(BD0 G (.own 97 4 (some ⟨gb,0,none⟩) gn gc (qds s.C):: .own 119 1 pa pn pc (X.map rxV)::K) s tb (some ⟨gb,0,none⟩) gn gc oa on oc pa pn pc t h1 (by omega) hz.2.2 (by omega)).mono ?_
    rintro v H' ⟨rfl,rfl⟩
    exact⟨[.own 119 1 pa pn pc (X.map rxV)],pa,pc,X,rfl,by rw[←hpn];rfl,inferInstanceAs (RdC G (.own 119 1 pa pn pc (X.map rxV)::Kr) pa _),hr.cons,by rw[hX];rfl,by rw[←hpn];exact inferInstanceAs (CapC G (.own 119 1 pa pn pc (X.map rxV)::Kr) pa pn pc)⟩
theorem A56 (G:Ctx) (K Kr:List Ent) (s:Scr) (tb gb gn gc:Nat) (oa:Option Addr) (on oc:Nat) (pa:Option Addr) (pn pc:Nat) (t:ByteArray) (X:List (Rx Qd)) (hs:Pln s) (hX:X.map (·.2.2)=s.past) (hr:RdX qds G Kr X) (hpn:pn=X.length):
    SC Tryz.prog G 106 [.pointer (some ⟨tb,0,none⟩),.int .i64 13] (tmH tb gb gn gc oa on oc pa pn pc t X s K) (TmP G K Kr tb gb gn gc oa on oc t (homeS s)):=by
  have hz:=hs.g.size
  have hcl:l6 0 0 ((s.w:Int)-1)=0:=by unfold l6;omega
  have cC:=fun H=>AR2 G H s 0 tb (some ⟨gb,0,none⟩) gn gc oa on oc pa pn pc t (by omega)
  rw[hcl,show ({s with late:=false,col:=0}:Scr)=homeS s from rfl] at cC
  unfold tmH TmP
  refine J3 Tryz.func106 rfl rfl rfl rfl rfl ?_
  repeat' (first|(apply F3;first|(apply C8;refine A8 ?_)|(apply C9;refine D8 rfl rfl ?_)|(apply E5;refine F5 rfl rfl rfl ?_;refine F7 rfl ?_)|(apply D6;refine D9 rfl rfl ?_)|(apply H6;refine c_call rfl rfl rfl (cC _) rfl rfl ?_;rintro _ _ ⟨rfl,rfl⟩))|(apply D7)|(apply F6)|(apply A7)|(refine G5 rfl ?_;first|(apply I7)|(apply I5))|(apply D5)|(apply J2))
  all_goals (skip)
  refine M9 _ (by (exact .inl rfl)) rfl (fun _ hw=>hw) ⟨[.own 119 1 pa pn pc (X.map rxV)],pa,pc,X,rfl,by rw[←hpn];rfl,inferInstanceAs (RdC G (.own 119 1 pa pn pc (X.map rxV)::Kr) pa _),hr.cons,by rw[hX];rfl,by rw[←hpn];exact inferInstanceAs (CapC G (.own 119 1 pa pn pc (X.map rxV)::Kr) pa pn pc)⟩
theorem Ax8 (G:Ctx) (K Kr:List Ent) (s:Scr) (tb gb gn gc:Nat) (oa:Option Addr) (on oc:Nat) (pa:Option Addr) (pn pc:Nat) (t:ByteArray) (X:List (Rx Qd)) (hs:Pln s) (hgn:gn=s.C.length) (hgc:gn≤gc) (hX:X.map (·.2.2)=s.past) (hr:RdX qds G Kr X) (hpn:pn=X.length):
    SC Tryz.prog G 106 [.pointer (some ⟨tb,0,none⟩),.int .i64 10] (tmH tb gb gn gc oa on oc pa pn pc t X s K) (TmP G K Kr tb gb gn gc oa on oc t (V5 s)):=by
  have cX:=Bi0 G K Kr s tb gb gn gc oa on oc pa pn pc t X hs hgn hgc hX hr hpn
  have f3:(V5 s).modes=12:=by rw[←hs.modes];unfold V5;split<;>rfl
  have cI:=fun (H:List Ent) (cs:List Value) (_:HasBlk H tb 158 cs) (hc:cs[11]? =some (.int .i64 (V5 s).modes))=>AM6 G H tb cs (V5 s).modes 128 (by rw[f3];decide) (by omega) hc
  have hm:(iand (V5 s).modes 128 !=0)=false:=by rw[f3,m12.2.2.2];rfl
  rw[hm] at cI
  generalize V5 s=s2 at *
  unfold TmP at *
  refine J3 Tryz.func106 rfl rfl rfl rfl rfl ?_
  repeat' (first|(apply F3;first|(apply C8;refine A8 ?_)|(apply C9;refine D8 rfl rfl ?_)|(apply E5;refine F5 rfl rfl rfl ?_;refine F7 rfl ?_)|(apply D6;refine D9 rfl rfl ?_)|(apply H6;first|(refine c_call rfl rfl rfl cX rfl rfl ?_;rintro _ _ ⟨E,pa2,pc2,X2,rfl,rfl,r1,r2,r3,r4⟩)|refine F9 rfl rfl rfl (cI _ _ inferInstance rfl) rfl rfl ?_))|(apply D7)|(apply G9)|(apply F6)|(apply A7)|(refine G5 rfl ?_;first|(apply I7)|(apply I5))|(apply D5)|(apply J2))
  all_goals (skip)
  exact M9 _ (by (exact .inl rfl)) rfl (fun _ hw=>hw) ⟨E,pa2,pc2,X2,rfl,rfl,r1,r2,r3,r4⟩
/-- An act done. -/
def actS (s:Scr) (k c:Int):Scr:=if k=1 then Ac0 s c else if c=13 then homeS s else V5 s
theorem Bl1 (G:Ctx) (K Kr:List Ent) (s:Scr) (c:Int) (tb gb gn gc:Nat) (oa:Option Addr) (on oc:Nat) (pa:Option Addr) (pn pc:Nat) (t:ByteArray) (X:List (Rx Qd)) (hc:0≤c∧c≤127) (hw:H5 c=1) (hs:Pln s) (hgn:gn=s.C.length) (hgc:gn≤gc) (hX:X.map (·.2.2)=s.past) (hr:RdX qds G Kr X) (hpn:pn=X.length):
    SC Tryz.prog G 105 [.pointer (some ⟨tb,0,none⟩),.int .i64 c] (tmH tb gb gn gc oa on oc pa pn pc t X s K) (TmP G K Kr tb gb gn gc oa on oc t (Ac0 s c)):=by
  have hpl:pn≤40:=by rw[hpn];have:=congrArg List.length hX;rw[List.length_map] at this;rw[this];exact hs.past
  have e1:iand s.modes 1=0:=by rw[hs.modes];exact m12.1
  have e4:iand s.modes 4≠0:=by rw[hs.modes,m12.2.1];decide
  have eo:iand s.modes 256=0:=by rw[hs.modes];exact m12.2.2.1
  have em:0≤s.modes∧s.modes≤2047:=by rw[hs.modes];decide
  unfold tmH Ac0
  cases hl:s.late with
  | false=>
    rw[if_neg (by simp)]
    exact Bt8 G K Kr s c tb gb gn gc oa on oc pa pn pc t X hc hw hl hs.g hgn hgc hs.row hs.col em e1 e4 hs.sh hs.p0 hX hr hpn
  | true=>
    rw[if_pos rfl]
    exact By7 G K Kr s c tb gb gn gc oa on oc pa pn pc t X hc hw hl hs.g hgn hgc hs.row em e1 e4 eo hs.sh hs.p0 hs.pen.2 hs.top hs.bot hX hr hpn hpl
theorem BW0 (G:Ctx) (K Kr:List Ent) (s:Scr) (k c m:Int) (i x:ByteArray) (aa:Option Addr) (an ac:Nat) (tb gb gn gc:Nat) (oa:Option Addr) (on oc:Nat) (pa:Option Addr) (pn pc:Nat) (t:ByteArray) (X:List (Rx Qd)) (hk:(k=1∧(0≤c∧c≤127)∧H5 c=1)∨(k=2∧(c=13∨c=10))) (hs:Pln s) (hgn:gn=s.C.length) (hgc:gn≤gc) (hX:X.map (·.2.2)=s.past) (hr:RdX qds G Kr X) (hpn:pn=X.length):
    SC Tryz.prog G 58 [.pointer (some ⟨tb,0,none⟩),acV k c m i aa an ac x] (tmH tb gb gn gc oa on oc pa pn pc t X s K) (TmP G K Kr tb gb gn gc oa on oc t (actS s k c)):=by
  unfold actS
  have key:∀(f:Nat) (s2:Scr) (_:∀K':List Ent,SC Tryz.prog G f [.pointer (some ⟨tb,0,none⟩),.int .i64 c] (tmH tb gb gn gc oa on oc pa pn pc t X s K') (TmP G K' Kr tb gb gn gc oa on oc t s2)) (_:(k=1∧f=105)∨(k=2∧f=106)),SC Tryz.prog G 58 [.pointer (some ⟨tb,0,none⟩),acV k c m i aa an ac x] (tmH tb gb gn gc oa on oc pa pn pc t X s K) (TmP G K Kr tb gb gn gc oa on oc t s2):=by
    intro f s2 hf hf2
    have fin:∀(b:Nat) (cs:List Value) (v:Value) (H':List Ent),TmP G (.blk b 160 cs::K) Kr tb gb gn gc oa on oc t s2 v H'→TmP G K Kr tb gb gn gc oa on oc t s2 v H':=by
      rintro b cs v H' ⟨E,pa2,pc2,X2,e1,e2,r1,r2,r3,r4⟩
      have e:E++(.blk b 160 cs::K)=(E++[.blk b 160 cs])++K:=by rw[List.append_assoc];rfl
      have hh:∀w,Holds G ((E++[.blk b 160 cs])++Kr) w→Holds G (E++Kr) w:=fun w hw=>hw.sub (by
        rw[List.append_assoc]
        exact(List.Sublist.refl E).append (List.sublist_append_right _ _))
      rw[e] at e2
      exact⟨_,pa2,pc2,X2,e1,e2,⟨fun w hw=>r1.here w (hh w hw)⟩,r2.mono hh,r3,⟨fun w hw=>r4.here w (hh w hw)⟩⟩
    rcases hf2 with ⟨rfl,rfl⟩|⟨rfl,rfl⟩
    · unfold tmH
      refine J3 Tryz.func58 rfl rfl rfl rfl rfl ?_
      repeat' (first|(apply F3;first|(apply C8;refine A8 ?_)|(apply E5;refine F5 rfl rfl rfl ?_;refine F7 rfl ?_)|(apply F4;refine F8 rfl rfl ?_;refine G6 rfl ?_)|(apply D6;refine D9 rfl rfl ?_)|(apply G7;refine G8 (E8 rfl rfl) rfl ?_)|(apply K9;refine O5 rfl rfl rfl rfl rfl rfl (fun _=>?_)))|(apply D7)|(apply F6)|((fail_if_success (refine K3 (id:=2) ?_));apply A7)|(refine G5 rfl ?_;apply I7)|(apply D5))
      all_goals (skip)
      rename_i b
      have hf':=hf (.blk b 160 [.int .i64 1,.int .i64 c,.int .i64 m,.string i,.slice aa an ac,.string x]::K)
      refine Aw5 (fun _ _ h=>h) (H':=tmH tb gb gn gc oa on oc pa pn pc t X s (.blk b 160 [.int .i64 1,.int .i64 c,.int .i64 m,.string i,.slice aa an ac,.string x]::K)) (by unfold tmH;exact I8) ?_
      unfold tmH at hf' ⊢
      repeat' (first|(apply F3;first|(apply C8;refine A8 ?_)|(apply C9;refine D8 rfl rfl ?_)|(apply F4;refine F8 rfl rfl ?_;refine G6 rfl ?_)|(apply G7;refine G8 (E8 rfl rfl) rfl ?_)|(apply H6;refine c_call rfl rfl rfl hf' rfl rfl ?_;intro v H' hT))|(apply A7)|(apply J2))
      all_goals (skip)
      have hv:v=resV []:=by obtain⟨_,_,_,_,e,_⟩:=hT;exact e
      subst hv
      exact M9 _ (by (exact .inl rfl)) rfl (fun _ hw=>hw) (fin _ _ _ _ hT)
    · unfold tmH
      refine J3 Tryz.func58 rfl rfl rfl rfl rfl ?_
      repeat' (first|(apply F3;first|(apply C8;refine A8 ?_)|(apply E5;refine F5 rfl rfl rfl ?_;refine F7 rfl ?_)|(apply F4;refine F8 rfl rfl ?_;refine G6 rfl ?_)|(apply D6;refine D9 rfl rfl ?_)|(apply G7;refine G8 (E8 rfl rfl) rfl ?_)|(apply K9;refine O5 rfl rfl rfl rfl rfl rfl (fun _=>?_)))|(apply D7)|(apply F6)|((fail_if_success (refine K3 (id:=4) ?_));apply A7)|(refine G5 rfl ?_;first|(apply I7)|(apply I5))|(apply D5))
      all_goals (skip)
      rename_i b
      have hf':=hf (.blk b 160 [.int .i64 2,.int .i64 c,.int .i64 m,.string i,.slice aa an ac,.string x]::K)
      refine Aw5 (fun _ _ h=>h) (H':=tmH tb gb gn gc oa on oc pa pn pc t X s (.blk b 160 [.int .i64 2,.int .i64 c,.int .i64 m,.string i,.slice aa an ac,.string x]::K)) (by unfold tmH;exact I8) ?_
      unfold tmH at hf' ⊢
      repeat' (first|(apply F3;first|(apply C8;refine A8 ?_)|(apply C9;refine D8 rfl rfl ?_)|(apply F4;refine F8 rfl rfl ?_;refine G6 rfl ?_)|(apply G7;refine G8 (E8 rfl rfl) rfl ?_)|(apply H6;refine c_call rfl rfl rfl hf' rfl rfl ?_;intro v H' hT))|(apply A7)|(apply J2))
      all_goals (skip)
      have hv:v=resV []:=by obtain⟨_,_,_,_,e,_⟩:=hT;exact e
      subst hv
      exact M9 _ (by (exact .inl rfl)) rfl (fun _ hw=>hw) (fin _ _ _ _ hT)
  rcases hk with ⟨rfl,h1,h2⟩|⟨rfl,rfl|rfl⟩
  · rw[if_pos rfl]
    exact key _ _ (fun K'=>Bl1 G K' Kr s c tb gb gn gc oa on oc pa pn pc t X h1 h2 hs hgn hgc hX hr hpn) (.inl ⟨rfl,rfl⟩)
  · rw[if_neg (by decide),if_pos rfl]
    exact key _ _ (fun K'=>A56 G K' Kr s tb gb gn gc oa on oc pa pn pc t X hs hX hr hpn) (.inr ⟨rfl,rfl⟩)
  · rw[if_neg (by decide),if_neg (by decide)]
    exact key _ _ (fun K'=>Ax8 G K' Kr s tb gb gn gc oa on oc pa pn pc t X hs hgn hgc hX hr hpn) (.inr ⟨rfl,rfl⟩)
theorem Bb8 (G:Ctx) (K:List Ent) (s:Scr) (m:Int) (i x:ByteArray) (aa:Option Addr) (an ac:Nat) (tb gb gn gc:Nat) (oa:Option Addr) (on oc:Nat) (pa:Option Addr) (pn pc:Nat) (t:ByteArray) (X:List (Rx Qd)) (hs:Pln s):
    SC Tryz.prog G 58 [.pointer (some ⟨tb,0,none⟩),acV 2 13 m i aa an ac x] (tmH tb gb gn gc oa on oc pa pn pc t X s K) fun v H'=>v=resV []∧H'=tmH tb gb gn gc oa on oc pa pn pc t X (homeS s) K:=by
  have hz:=hs.g.size
  have hcl:l6 0 0 ((s.w:Int)-1)=0:=by unfold l6;omega
  have cC:=fun H=>AR2 G H s 0 tb (some ⟨gb,0,none⟩) gn gc oa on oc pa pn pc t (by omega)
  rw[hcl,show ({s with late:=false,col:=0}:Scr)=homeS s from rfl] at cC
  have cK:∀H,SC Tryz.prog G 106 [.pointer (some ⟨tb,0,none⟩),.int .i64 13] (.blk tb 158 (trmC s (some ⟨gb,0,none⟩) gn gc oa on oc pa pn pc t)::H) fun v H'=>v=resV []∧H'= .blk tb 158 (trmC (homeS s) (some ⟨gb,0,none⟩) gn gc oa on oc pa pn pc t)::H:=by
    intro H
    refine J3 Tryz.func106 rfl rfl rfl rfl rfl ?_
    repeat' (first|(apply F3;first|(apply C8;refine A8 ?_)|(apply C9;refine D8 rfl rfl ?_)|(apply E5;refine F5 rfl rfl rfl ?_;refine F7 rfl ?_)|(apply D6;refine D9 rfl rfl ?_)|(apply H6;refine c_call rfl rfl rfl (cC _) rfl rfl ?_;rintro _ _ ⟨rfl,rfl⟩))|(apply D7)|(apply F6)|(apply A7)|(refine G5 rfl ?_;first|(apply I7)|(apply I5))|(apply D5)|(apply J2))
    all_goals (skip)
    exact M9 _ (by (exact .inl rfl)) rfl (fun _ hw=>hw) ⟨rfl,rfl⟩
  have hC:(homeS s).C=s.C:=rfl
  unfold tmH
  rw[hC]
  refine J3 Tryz.func58 rfl rfl rfl rfl rfl ?_
  repeat' (first|(apply F3;first|(apply C8;refine A8 ?_)|(apply C9;refine D8 rfl rfl ?_)|(apply E5;refine F5 rfl rfl rfl ?_;refine F7 rfl ?_)|(apply F4;refine F8 rfl rfl ?_;refine G6 rfl ?_)|(apply D6;refine D9 rfl rfl ?_)|(apply G7;refine G8 (E8 rfl rfl) rfl ?_)|(apply H6;refine c_call rfl rfl rfl (AC0 PickBlk.here (cK _)) rfl rfl ?_;rintro _ _ ⟨rfl,rfl⟩)|(apply K9;refine O5 rfl rfl rfl rfl rfl rfl (fun _=>?_)))|(apply D7)|(apply F6)|(apply A7)|(refine G5 rfl ?_;first|(apply I7)|(apply I5))|(apply D5)|(apply J2))
  all_goals (skip)
  exact M9 (.blk tb 158 (trmC (homeS s) (some ⟨gb,0,none⟩) gn gc oa on oc pa pn pc t):: .own 97 4 (some ⟨gb,0,none⟩) gn gc (qds s.C):: .own 119 1 pa pn pc (X.map rxV)::K) (by (exact .inl rfl)) rfl I8 ⟨rfl,rfl⟩
end
section
set_option maxHeartbeats 1000000
structure Fre (s:Scr):Prop where
  pl:Pln s
  o:GrOk s.w s.h s.D
  late:s.late=true→s.col=(s.w:Int)-1
  p1:s.p1=1
  sv:s.sr=0∧s.sc=0∧s.spf=0∧s.spr=0∧s.spb=0∧s.sp0=1∧s.sp1=1∧s.ssh=0
  ti:s.ti=⟨#[]⟩
  rows:∀r∈s.past,GrOk r.length 1 r
theorem GrOk.row {w h k:Nat} {C:List Qd} (g:GrOk w h C) (hk:k<h):GrOk (rowQ w C k).length 1 (rowQ w C k):=by
  have hl:=j5 hk g.len
  refine⟨⟨by rw[hl];exact g.size.1,by decide,by decide⟩,by omega,fun j hj i hi=>?_⟩
  have hj0:j=0:=by omega
  subst hj0
  have e:rowQ (rowQ w C k).length (rowQ w C k) 0=rowQ w C k:=by
    show ((rowQ w C k).drop (0 * (rowQ w C k).length)).take (rowQ w C k).length=_
    rw[Nat.zero_mul,List.drop_zero,List.take_length]
  rw[e]
  exact g.cell k hk i (by omega)
theorem GrOk.putRow {w h k:Nat} {C:List Qd} (g:GrOk w h C) (hk:k<h) {R':List Qd} (hR':R'.length=w) (ho:∀i,i<w→l7 R' i=true):GrOk w h (rowC C w k R'):=by
  have hr:=AN5 (w:=w) (h:=h) (k:=k) (n:=C.length) hk g.len
  have e:C=C.take (k * w)++rowQ w C k++C.drop (k * w+w):=by
    unfold rowQ
    rw[List.append_assoc,←List.drop_drop,List.take_append_drop,List.take_append_drop]
  unfold rowC
  exact g.put hk e (by rw[List.length_take];omega) (j5 hk g.len) hR' ho
theorem Fre.home {s:Scr} (f:Fre s):Fre (homeS s):=by
  have hz:=f.pl.g.size
  exact⟨⟨f.pl.g,f.pl.row,by show (0:Int)≤0∧(0:Int)<s.w;omega,f.pl.modes,f.pl.sh,f.pl.p0,f.pl.pen,f.pl.top,f.pl.bot,f.pl.past⟩,f.o,(fun h=>by cases h),f.p1,f.sv,f.ti,f.rows⟩
theorem Fre.index {s:Scr} (f:Fre s):Fre (V5 s):=by
  have hz:=f.pl.g.size
  have hro:=f.pl.row
  have hb:=f.pl.bot
  unfold V5
  split
  · rename_i h1
    have hp:(upR s).past=AO2 s.past (rowQ s.w s.C 0):=rfl
    have hpl:(upR s).past.length≤40:=by
      have:=f.pl.past
      rw[hp];unfold AO2
      split
      · rw[List.length_drop,List.length_append];simp;omega
      · omega
    have hpr:∀r∈(upR s).past,GrOk r.length 1 r:=by
      have h2:∀r∈s.past++[rowQ s.w s.C 0],GrOk r.length 1 r:=fun r hr=>by
        rcases List.mem_append.1 hr with h|h
        · exact f.rows r h
        · rw[List.mem_singleton] at h;rw[h];exact f.pl.g.row (by omega)
      rw[hp];unfold AO2
      split
      · exact fun r hr=>h2 r (List.mem_of_mem_drop hr)
      · exact h2
    exact⟨⟨f.pl.g.scroll 1 0 0 s.pb (by omega) f.pl.pen.2,f.pl.row,f.pl.col,f.pl.modes,f.pl.sh,f.pl.p0,f.pl.pen,f.pl.top,f.pl.bot,hpl⟩,f.o,(fun h=>by cases h),f.p1,f.sv,f.ti,hpr⟩
  · rename_i h1
    exact⟨⟨f.pl.g,by show 0≤s.row+1∧s.row+1<(s.h:Int);omega,f.pl.col,f.pl.modes,f.pl.sh,f.pl.p0,f.pl.pen,f.pl.top,f.pl.bot,f.pl.past⟩,f.o,(fun h=>by cases h),f.p1,f.sv,f.ti,f.rows⟩
theorem Fre.put {s:Scr} (f:Fre s) {c:Int} (hw:H5 c=1):Fre (putS s c):=by
  have hz:=f.pl.g.size
  have hro:=f.pl.row
  have hco:=f.pl.col
  have hk:s.row.toNat<s.h:=by omega
  have hlen:(putQ H5 (rowQ s.w s.C s.row.toNat) s.col.toNat c s.pf s.pr s.pb).length=s.w:=by rw[A26,j5 hk f.pl.g.len]
  have hpen:penB s.pf s.pr s.pb=true:=f.pl.pen.1
  have hc:=Av1 (Au7 (c:=s.col.toNat) (f.pl.g.cels hk) hpen (by rw[hw];decide))
  rw[hlen] at hc
  have hg:=f.pl.g.putRow hk (R':=mendQ H5 (putQ H5 (rowQ s.w s.C s.row.toNat) s.col.toNat c s.pf s.pr s.pb)) (by rw[AM7,hlen]) hc
  refine⟨⟨hg,f.pl.row,?_,f.pl.modes,f.pl.sh,f.pl.p0,f.pl.pen,f.pl.top,f.pl.bot,f.pl.past⟩,f.o,?_,f.p1,f.sv,f.ti,f.rows⟩
  · show 0≤(if s.col+1>(s.w:Int)-1 then (s.w:Int)-1 else s.col+1)∧(if s.col+1>(s.w:Int)-1 then (s.w:Int)-1 else s.col+1)<(s.w:Int)
    split<;>omega
  · intro h
    have h:s.col+1>(s.w:Int)-1:=of_decide_eq_true h
    show (if s.col+1>(s.w:Int)-1 then (s.w:Int)-1 else s.col+1)=(s.w:Int)-1
    rw[if_pos h]
theorem Fre.act {s:Scr} (f:Fre s) {k c:Int} (hk:(k=1∧(0≤c∧c≤127)∧H5 c=1)∨(k=2∧(c=13∨c=10))):Fre (actS s k c):=by
  unfold actS
  rcases hk with ⟨rfl,h1,h2⟩|⟨rfl,rfl|rfl⟩
  · rw[if_pos rfl]
    unfold Ac0
    split
    · exact f.home.index.put h2
    · exact f.put h2
  · rw[if_neg (by decide),if_pos rfl];exact f.home
  · rw[if_neg (by decide),if_neg (by decide)];exact f.index
theorem A90 (s:Scr) (k c:Int):(actS s k c).w=s.w∧(actS s k c).h=s.h∧(actS s k c).D=s.D:=by
  unfold actS Ac0 V5
  split
  · split
    · unfold putS;dsimp only;split<;>exact⟨rfl,rfl,rfl⟩
    · exact⟨rfl,rfl,rfl⟩
  · split
    · exact⟨rfl,rfl,rfl⟩
    · split<;>exact⟨rfl,rfl,rfl⟩
theorem Fre.new {w h:Nat} (hs:(1≤w∧w≤160)∧(1≤h∧h≤60)):Fre (newS w h):=by
  exact⟨⟨GrOk.new hs,by show (0:Int)≤0∧(0:Int)<h;omega,by show (0:Int)≤0∧(0:Int)<w;omega,rfl,rfl,rfl,⟨BM3,BM3⟩,rfl,rfl,Nat.zero_le _⟩,GrOk.new hs,(fun h=>by cases h),rfl,⟨rfl,rfl,rfl,rfl,rfl,rfl,rfl,rfl⟩,rfl,fun r hr=>nomatch hr⟩
end
section
set_option maxHeartbeats 2000000
attribute [local irreducible] SW SL SQ AtQ SV SC BB LD PK Yields SO SOT SOA SY
theorem bbLe {x y:Operand} {K:Value→Prop} {p q:Int} (h:p≤q) (hk:K (.bool true)):BB Tryz.prog .leq 3 x y (.int .i64 p) (.int .i64 q) K:=F7 (v:= .bool (decide (p≤q))) rfl (by rw[decide_eq_true h];exact hk)
theorem bbEq {x y:Operand} {K:Value→Prop} {p q:Int} (h:p=q) (hk:K (.bool true)):BB Tryz.prog .eql 3 x y (.int .i64 p) (.int .i64 q) K:=F7 (v:= .bool (p==q)) rfl (by rw[show (p==q)=true from beq_iff_eq.2 h];exact hk)
theorem bbEqE {x y:Operand} {K:Value→Prop} {p q:Int} (h:p=q) (hk:K (.bool true)):BB Tryz.prog .eql 57 x y (.int .i64 p) (.int .i64 q) K:=F7 (v:= .bool (p==q)) rfl (by rw[show (p==q)=true from beq_iff_eq.2 h];exact hk)
theorem BU5 (G:Ctx) (H:List Ent) (p:Int) (hp:p=1):SV Tryz.prog G 62 [.int .i64 p] H (.bool true):=by
  subst hp
  refine M5 Tryz.func62 rfl rfl rfl rfl rfl ?_
  repeat' (first|(apply F3;first|(apply C8;refine A8 ?_)|(apply C9;refine D8 rfl rfl ?_)|(apply E5;refine F5 rfl rfl rfl ?_;refine F7 rfl ?_)|(apply D6;refine D9 rfl rfl ?_)|(apply I6;refine I9 rfl rfl ?_;apply Q9;refine Q8 rfl ?_)|(apply I1;refine J9 rfl rfl rfl rfl ?_;apply I7))|(apply D7)|(apply H7)|(apply A7)|(apply D5))
  all_goals (refine M3 (by (exact .inr rfl)) rfl N7 ?_;rfl)
theorem BN7 (G:Ctx) (H:List Ent) (n lo hi:Int) (h:lo≤n∧n≤hi):SV Tryz.prog G 60 [.int .i64 n,.int .i64 lo,.int .i64 hi] H (.bool true):=by
  refine AC6 Tryz.func60 rfl rfl rfl rfl rfl ?_
  repeat' (first|(apply F3;first|(apply C8;refine A8 ?_)|(apply C9;refine D8 rfl rfl ?_)|(apply E5;refine F5 rfl rfl rfl ?_;refine F7 rfl ?_)|(apply D6;refine D9 rfl rfl ?_)|(apply I6;refine I9 rfl rfl ?_;apply Q9;refine Q8 rfl ?_)|(apply I1;refine J9 rfl rfl rfl rfl ?_;first|(apply I7)|(apply E9<;>intro hq<;>(try (exfalso;omega)))))|(apply D7)|(apply H7)|(apply A7)|(apply D5))
  all_goals (skip)
  refine M3 (by (exact .inr rfl)) rfl N7 ?_
  simp [resV];omega
theorem Bw1 (G:Ctx) (H:List Ent) (X:List (Rx Qd)) {vs:List Value} (pa:Option Addr) (n pc:Nat) [h1:RdC G H pa vs] (hv:vs=X.map rxV) (hr:RdX qds G H X) (hn:n=X.length) (hm:n≤40) (hg:∀x∈X,GrOk x.2.2.length 1 x.2.2):SV Tryz.prog G 63 [.slice pa n pc] H (.bool true):=by
  have hlx:vs.length=n * 1:=by rw[hv,List.length_map,hn,Nat.mul_one]
  have hel:∀(k:Nat) x,X[k]? =some x→take? (vs.drop ((k:Int).toNat * 1)) 1=some [rxV x]:=fun k x hx=>by
    subst hv
    rw[Int.toNat_natCast,Nat.mul_one]
    have hlt:=(List.getElem?_eq_some_iff.1 hx).1
    refine AK2 rfl ?_
    rw[List.drop_eq_getElem_cons (by rw[List.length_map];exact hlt),List.take_succ_cons,List.take_zero,List.getElem_map,(List.getElem?_eq_some_iff.1 hx).2]
  have Hn:=Lib.hid hn
  clear hn
  refine M5 Tryz.func63 rfl rfl rfl rfl rfl ?_
  repeat' (first|(apply F3;first|(apply C8;refine A8 ?_)|(apply C9;refine D8 rfl rfl ?_)|(apply D6;refine D9 rfl rfl ?_)|(apply J5;refine s_call (Q5 rfl rfl) rfl ?_))|(apply D7)|(apply F6)|((fail_if_success (refine K3 (id:=2) ?_));apply A7)|(apply D5))
  refine R9 (α:=Nat) (fun k=>[(0,.slice pa n pc),(5,.slice pa n pc),(6,.int .i64 n),(7,.int .i64 k)]) (fun _=>H)
    (fun k=>k≤n) (fun k=>n-k) 0 (Nat.zero_le _) (by repeat (first|exact Le.nil _|refine Le.cons (by (rfl)) ?_)) I8 ?_
  intro k hk
  by_cases hlt:(k:Int)<n
  · obtain⟨x,hx⟩:=AA3 (X:=X) (k:=k) (by rw[←Hn.out];omega)
    have e1:=hel k x hx
    have hsl:=hr.at hx
    have hgx:=hg x (List.mem_of_getElem? hx)
    refine AW8 fun w0 hw0=>?_
    have hcap:=(hsl w0 hw0).1
    clear hw0 w0
    obtain⟨a,c,R⟩:=x
    dsimp only at hcap hgx
    haveI:=hsl.rd
    dsimp only at this
    have hll:=hgx.len1
    have cG:=fun (H:List Ent) [RdC G H a (qds R)]=>AG5 G H R (R.length:Int) ((1:Nat):Int) a R.length c rfl rfl (by omega) hcap
    rw[hgx.e] at cG
    have e1:take? (vs.drop ((k:Int).toNat * 1)) 1=some [.slice a R.length c]:=e1
    clear hel hv hr hg hx hsl hgx
    repeat' (first|(apply F3;first|(apply C8;refine A8 ?_)|(apply C9;refine D8 rfl rfl ?_)|(apply E5;refine F5 rfl rfl rfl ?_;first|(apply M0;refine L9 ⟨by omega,by omega⟩ ?_)|refine F7 rfl ?_)|(apply F4;first|(refine F8 rfl rfl ?_;refine G6 rfl ?_)|(refine F8 rfl rfl ?_;refine Y5 e1 rfl ?_))|(apply G7;refine G8 (E8 rfl rfl) rfl ?_)|(apply P5;refine R7 (O6 rfl rfl rfl) rfl ?_)|(apply M4;refine N9 (K6 rfl rfl rfl hlx (by omega) (by omega)) rfl ?_)|(apply H6;refine F9 rfl rfl rfl (cG _) rfl rfl ?_)|(apply J5;refine s_call (Q5 rfl rfl) rfl ?_)|(apply H9;refine M6 rfl rfl rfl rfl rfl rfl rfl rfl ?_)|(apply L6;refine O0 rfl rfl rfl rfl (fun _=>?_)))|(apply D7)|(apply G9)|(apply F6)|(apply A7)|(refine G5 rfl ?_;first|(apply I5)|(apply E9<;>intro hq<;>(try (exfalso;omega))))|(apply D5)|(apply J2))
    all_goals (skip)
    exact J6 (k+1) ⟨by omega,by omega⟩ (by repeat (first|exact Le.nil _|refine Le.cons (by (rfl)) ?_)) I8
  · obtain rfl:k=n:=by omega
    repeat' (first|(apply F3;first|(apply C8;refine A8 ?_)|(apply C9;refine D8 rfl rfl ?_)|(apply E5;refine F5 rfl rfl rfl ?_;refine F7 rfl ?_)|(apply D6;refine D9 rfl rfl ?_)|(apply J5;refine s_call (Q5 rfl rfl) rfl ?_))|(apply D7)|(apply H7)|(apply N8)|(apply A7)|(refine G5 rfl ?_;apply E9<;>intro hq<;>(try (exfalso;omega)))|(apply D5)|(apply J7)|(apply J8))
    all_goals (skip)
    refine M3 (by (exact .inr rfl)) rfl N7 ?_
    simp [resV];omega
theorem AI7 (G:Ctx) (H:List Ent) (s:Scr) (f:Fre s) (X:List (Rx Qd)) (ga:Option Addr) (gn gc:Nat) (oa:Option Addr) (on oc:Nat) (pa:Option Addr) (pn pc:Nat) [h1:RdC G H ga (qds s.C)] [h2:RdC G H oa (qds s.D)] [h3:RdC G H pa (X.map rxV)] (hgn:gn=s.C.length) (hgc:gn≤gc) (hon:on=s.D.length) (hoc:on≤oc) (hpn:pn=X.length) (hX:X.map (·.2.2)=s.past) (hr:RdX qds G H X):
    SV Tryz.prog G 36 [.agg (scnC s ga gn gc oa on oc pa pn pc).toArray] H (.int .i64 0):=by
  have hz:=f.pl.g.size
  have hro:=f.pl.row
  have hco:=f.pl.col
  have hto:=f.pl.top
  have hbo:=f.pl.bot
  have hsv:=f.sv
  have hti:s.ti.size=0:=by rw[f.ti];rfl
  have hpl:pn≤40:=by rw[hpn];have:=congrArg List.length hX;rw[List.length_map] at this;rw[this];exact f.pl.past
  have cC:=fun (H:List Ent) [RdC G H ga (qds s.C)]=>AG5 G H s.C (s.w:Int) (s.h:Int) ga gn gc rfl hgn (by have:=f.pl.g.len1;omega) hgc
  rw[f.pl.g.e] at cC
  have cD:=fun (H:List Ent) [RdC G H oa (qds s.D)]=>AG5 G H s.D (s.w:Int) (s.h:Int) oa on oc rfl hon (by have:=f.o.len1;omega) hoc
  rw[f.o.e] at cD
  have cP:=fun (H:List Ent)=>AC3 G H s.pf s.pr s.pb
  rw[if_pos f.pl.pen.1] at cP
  have cP2:=fun (H:List Ent)=>AC3 G H s.spf s.spr s.spb
  rw[if_pos (by rw[hsv.2.2.1,hsv.2.2.2.1,hsv.2.2.2.2.1];exact BM3)] at cP2
  have cK:=fun (H:List Ent) (p:Int) (hp:p=1)=>BU5 G H p hp
  have hp0:=f.pl.p0
  have hp1:=f.p1
  have hsp0:=hsv.2.2.2.2.2.1
  have hsp1:=hsv.2.2.2.2.2.2.1
  have hmo:=f.pl.modes
  have hsh:=f.pl.sh
  have hssh:=hsv.2.2.2.2.2.2.2
  have hsr:=hsv.1
  have hsc:=hsv.2.1
  have cW:=fun (H:List Ent) (n lo hi:Int) (h:lo≤n∧n≤hi)=>BN7 G H n lo hi h
  have cX:=fun (H:List Ent) (_:RdC G H pa (X.map rxV)) (hr:RdX qds G H X)=>Bw1 G H X pa pn pc rfl hr hpn hpl (fun x hx=>f.rows _ (by rw[←hX];exact List.mem_map_of_mem hx))
  have hla:s.late=false∨(s.late=true∧s.col=(s.w:Int)-1):=by
    cases hl:s.late with
    | false=>exact .inl rfl
    | true=>exact .inr ⟨rfl,f.late hl⟩
  have hone:∀k:Nat,k<2→True:=fun _ _=>trivial
  clear hX hone hsv
  unfold scnC
  refine M5 Tryz.func36 rfl rfl rfl rfl rfl ?_
  repeat' (first|(apply F3;first|(apply C8;refine A8 ?_)|(apply D6;refine D9 rfl rfl ?_)|(apply K9;refine O5 rfl rfl rfl rfl rfl rfl (fun _=>?_)))|(apply D7)|((fail_if_success (refine K3 (id:=1) ?_));apply A7)|(apply D5))
  rename_i b
  refine j4 (α:=Nat×Nat) (fun g=>[(1,.pointer (some ⟨b,0,none⟩)),(3,.pointer (some ⟨g.1,0,none⟩)),(4,.pointer (some ⟨g.2,0,none⟩))])
    (fun g=> .blk g.1 29 [.int .i64 s.w,.int .i64 s.h,.slice ga gn gc]:: .blk g.2 29 [.int .i64 s.w,.int .i64 s.h,.slice oa on oc]:: .blk b 41 (scnC s ga gn gc oa on oc pa pn pc)::H) (fun _=>True) ?_ ?_
  · repeat' (first|(apply F3;first|(apply C8;refine A8 ?_)|(apply H9;refine M6 rfl rfl rfl rfl rfl rfl rfl rfl ?_)|(apply L6;refine O0 rfl rfl rfl rfl (fun _=>?_)))|(apply U4;refine R5 (k:=0) I8 ?_)|(apply V6;first|(refine O9 rfl ?_)|(refine P8 rfl rfl rfl rfl (by kernel_rfl) (by decide+kernel) (by decide+kernel) ?_;first|(apply U9;refine U6 rfl ?_;refine L8 rfl rfl ?_)|(apply Q0;refine I4 (E8 rfl rfl) ?_))|(refine P9 rfl ?_)|(refine R4 (by decide+kernel) ?_)|(refine S9 (by kernel_rfl) ?_))|(apply X4;first|(refine T9 rfl)|(refine U7 (by decide+kernel) ?_)|(refine U0 rfl ?_ ?_))|(refine K3 (id:=1) ?_;refine V3 _ (fun _ hw=>hw) ?_))
    all_goals
      rename_i b1 b2
      first
        | (refine J6 (b1,b2) trivial ?_ ?_
           focus (repeat (first|exact Le.nil _|refine Le.cons rfl ?_))
           exact I8)
        | (refine J6 (b2,b1) trivial ?_ ?_
           focus (repeat (first|exact Le.nil _|refine Le.cons rfl ?_))
           exact I8)
  rintro ⟨b1,b2⟩-
  dsimp only
  unfold scnC
  rcases hla with hl|⟨hl,hlc⟩
  all_goals
    rw[hl]
    repeat' (first|(apply F3;first|(apply C8;refine A8 ?_)|(apply C9;refine D8 rfl rfl ?_)|(apply E5;refine F5 rfl rfl rfl ?_;first|(refine bbLe (by omega) ?_)|(refine bbEq (by omega) ?_)|(refine bbEqE (by omega) ?_)|(apply y9;refine AA2 ⟨by omega,by omega⟩ ?_))|(apply F4;refine F8 rfl rfl ?_;first|refine G6 rfl ?_ |refine K5 rfl ?_ |refine L8 rfl rfl ?_)|(apply D6;refine D9 rfl rfl ?_)|(apply I6;refine I9 rfl rfl ?_;first|(apply Q9;refine Q8 rfl ?_)|(apply O1;refine O3 rfl ?_))|(apply G7;first|refine G8 (E8 rfl rfl) rfl ?_ |refine G8 (w9 rfl rfl) rfl ?_)|(apply Y0;refine Z8 (Z7 rfl rfl rfl) rfl ?_)|(apply H6;first|refine F9 rfl rfl rfl (cC _) rfl rfl ?_ |refine F9 rfl rfl rfl (cD _) rfl rfl ?_ |refine F9 rfl rfl rfl (cW _ _ _ _ (by omega)) rfl rfl ?_ |refine F9 rfl rfl rfl (cP _) rfl rfl ?_ |refine F9 rfl rfl rfl (cP2 _) rfl rfl ?_)|(apply I1;refine J9 rfl rfl rfl rfl ?_;first|(apply I7)|(apply X9)))|(apply D7)|(apply F6)|((fail_if_success (refine K3 (id:=7) ?_));apply A7)|(apply D5))
    refine AF8 3 (AF9 ?_)
    repeat' (first|(apply F3;first|(apply C8;refine A8 ?_)|(apply C9;refine D8 rfl rfl ?_)|(apply E5;refine F5 rfl rfl rfl ?_;first|(refine bbLe (by omega) ?_)|(first|(apply M0;refine L9 ⟨by omega,by omega⟩ ?_)|refine F7 rfl ?_))|(apply F4;refine F8 rfl rfl ?_;refine G6 rfl ?_)|(apply D6;refine D9 rfl rfl ?_)|(apply I6;refine I9 rfl rfl ?_;apply Q9;refine Q8 rfl ?_)|(apply G7;first|refine G8 (E8 rfl rfl) rfl ?_ |refine G8 (w9 rfl rfl) rfl ?_)|(apply Y0;refine Z8 (Z7 rfl rfl rfl) rfl ?_)|(apply M4;refine N9 (AB7 rfl rfl rfl (by omega) (by omega)) rfl ?_)|(apply H6;first|refine F9 rfl rfl rfl (cW _ _ _ _ (by omega)) rfl rfl ?_ |refine F9 rfl rfl rfl (cK _ _ (by omega)) rfl rfl ?_ |refine F9 rfl rfl rfl (cX _ inferInstance hr.cons.cons.cons) rfl rfl ?_)|(apply J5;refine s_call (Q3 rfl rfl) rfl ?_)|(apply I1;refine J9 rfl rfl rfl rfl ?_;apply I7))|(apply D7)|(apply AN0)|(apply G9)|(apply H7)|(apply N8)|(apply F6)|(apply A7)|(refine G5 rfl ?_;first|(apply I7)|(apply I5))|(apply D5)|(apply J7)|(apply J2)|(apply J8))
    all_goals (skip)
    refine M3 (by (exact .inr rfl)) rfl N7 ?_
    rfl
end
end Go.Proofs.YtmmnimagbnlcmaaGreatDoor
