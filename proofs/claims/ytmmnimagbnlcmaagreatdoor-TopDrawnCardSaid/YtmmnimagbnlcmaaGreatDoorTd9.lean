/- Texts of this claim, merged: Chk2 Chk3 Ans Arg IndexByte Par2 Runes Runes2 Encode. -/
import Derived.Test.YtmmnimagbnlcmaaGreatDoorTd8
import Derived.Test.YtmmnimagbnlcmaaGreatDoorRows
import Derived.WalkKit
import Derived.WalkSpells
import Derived.WalkLawsBesides
import Derived.Handy
import Derived.Lib.Hide
import Derived.Laws.BitsAllLaws
import Derived.Deep.MidRow
import Derived.Deep.WholeRow
import Derived.BigQuiet
import Derived.Deep.QuietTactic
import Derived.Laws.CopyOwn
import Derived.StillTailTactics
import Derived.RegionTactic
import Derived.ChangeAlike
import Derived.Laws.AppendOwnNone
import Derived.Laws.MakeOwn
import Derived.Laws.IdiomStrings
import Derived.OrdersHeld
import Derived.Lib.SliceRun
import Derived.ChangeKeysEq
import Derived.Laws.CopyRow
import Derived.Lib.AppendStr
import Derived.ArgAppend
import Derived.Laws.RangeAny
import Derived.Maps.RangeRun
import Derived.Lib.Replace
import Derived.Lib.Join
import Derived.Lib.IndexLaws
import Derived.Lib.IndexMore
import Derived.Lib.SplitLaws
import Derived.Shelf.Strings.Builder1
import Derived.Shelf.Strings.Builder2
import Derived.Shelf.Strings.OnBuilder
import Derived.Shelf.Strings.Trim
import Derived.Shelf.Small.Utf8
import Derived.Shelf.Small.Strs
import Derived.Shelf.Strings.BuilderF
import Derived.Shelf.Strconv.Itoa0
import Derived.Shelf.Strconv.Itoa1
import Derived.Shelf.LaysM
import Derived.Shelf.Strconv.Itoa2
import Derived.Shelf.Strconv.Itoa3
import Derived.Shelf.Strings.Search1
import Derived.Shelf.Strings.Search2
import Derived.Shelf.Strings.Search3
import Derived.Shelf.Strings.Count
import Derived.Shelf.Strings.Shaped
import Derived.Shelf.Strings.LastIndex
import Derived.Shelf.Strings.Prefix
import Derived.Shelf.Strings.Split
import Derived.Shelf.Strings.Replace
import Derived.Shelf.Strings.SplitShaped
import Derived.Shelf.Strings.Runes
import Derived.Shelf.Strings.AsciiSet
import Derived.Shelf.Bits.Mul64
import Derived.Shelf.Strings.Repeat
import Derived.Shelf.Unicode.DecodeSlow
import Derived.Shelf.Unicode.DecodeAny
import Derived.Shelf.Unicode.ValidAny
import Derived.Test.YtmmnimagbnlcmaaGreatDoorProg
import Derived.Lib.Bytealg
namespace Go.Proofs.YtmmnimagbnlcmaaGreatDoor
open Go Go.RowKit Go.Fw Go.Sx
set_option maxRecDepth 100000
section
set_option maxHeartbeats 2000000
attribute [local irreducible] SW SL SQ AtQ SV SC BB LD PK Yields SO SOT SOA SY
/-- A screen's copy, with rows of its own. -/
def ClnP (G:Ctx) (H:List Ent) (s:Scr) (gn on:Nat) (v:Value) (H':List Ent):Prop:=
  ∃(gb gc ob oc:Nat) (pa:Option Addr) (pc:Nat) (Y:List (Rx Qd)) (E:List Ent),v= .agg (scnC s (some ⟨gb,0,none⟩) gn gc (some ⟨ob,0,none⟩) on oc pa Y.length pc).toArray∧
    H'= .own 97 4 (some ⟨gb,0,none⟩) gn gc (qds s.C):: .own 119 1 pa Y.length pc (Y.map rxV)::(E++(.own 97 4 (some ⟨ob,0,none⟩) on oc (qds s.D)::H))∧RdX qds G E Y∧Y.map (·.2.2)=s.past∧gn≤gc∧on≤oc
theorem AP5 (G:Ctx) (H:List Ent) (s:Scr) (f:Fre s) (X:List (Rx Qd)) (ga:Option Addr) (gn gc:Nat) (oa:Option Addr) (on oc:Nat) (pa:Option Addr) (pn pc:Nat) [h1:RdC G H ga (qds s.C)] [h2:RdC G H oa (qds s.D)] [h3:RdC G H pa (X.map rxV)] (hgn:gn=s.C.length) (hon:on=s.D.length) (hpn:pn=X.length) (hX:X.map (·.2.2)=s.past) (hr:RdX qds G H X):
    SC Tryz.prog G 56 [.agg (scnC s ga gn gc oa on oc pa pn pc).toArray] H (ClnP G H s gn on):=by
  have hz:=f.pl.g.size
  have hl1:=f.pl.g.len1
  have hl2:=f.o.len1
  have hg0:0<gn:=by rw[hgn,f.pl.g.len];exact Nat.mul_pos (by omega) (by omega)
  have ho0:0<on:=by rw[hon,f.o.len];exact Nat.mul_pos (by omega) (by omega)
  have hpl:pn≤40:=by rw[hpn];have:=congrArg List.length hX;rw[List.length_map] at this;rw[this];exact f.pl.past
  have cC:=fun (H:List Ent) [RdC G H ga (qds s.C)]=>BF5 (AT5 G H s.C (s.w:Int) (s.h:Int) ga gn gc rfl hgn (by omega)) hg0
  have cD:=fun (H:List Ent) [RdC G H oa (qds s.D)]=>BF5 (AT5 G H s.D (s.w:Int) (s.h:Int) oa on oc rfl hon (by omega)) ho0
  have hlx:(X.map (rxV (α:=Qd))).length=pn * 1:=by rw[List.length_map,hpn,Nat.mul_one]
  have hXl:s.past.length=pn:=by rw[←hX,List.length_map,hpn]
  have Hn:=Lib.hid hpn
  have HXl:=Lib.hid hXl
  have hrows:=f.rows
  clear hpn hXl hgn hon hl1 hl2 f
  refine Y3 Tryz.func56 rfl rfl rfl rfl rfl ?_
  repeat' (first|(apply F3;first|(apply C8;refine A8 ?_)|(apply K9;refine O5 rfl rfl rfl rfl rfl rfl (fun _=>?_))|(apply L6;refine O0 rfl rfl rfl rfl (fun _=>?_)))|(apply D7)|((fail_if_success (refine K3 (id:=1) ?_));apply A7)|(apply D5))
  rename_i b b0
  refine j4 (α:=Nat×Nat×Nat×Nat) (fun g=>[(1,.pointer (some ⟨b,0,none⟩)),(2,.pointer (some ⟨b0,0,none⟩))])
    (fun g=> .blk b 41 (scnC s (some ⟨g.1,0,none⟩) gn g.2.1 (some ⟨g.2.2.1,0,none⟩) on g.2.2.2 pa pn pc):: .blk b0 41 scnZ:: .own 97 4 (some ⟨g.1,0,none⟩) gn g.2.1 (qds s.C):: .own 97 4 (some ⟨g.2.2.1,0,none⟩) on g.2.2.2 (qds s.D)::H) (fun g=>gn≤g.2.1∧on≤g.2.2.2) ?_ ?_
  · unfold scnC
    repeat' (first|(apply F3;first|(apply C8;refine A8 ?_)|(apply F4;refine F8 rfl rfl ?_;refine L8 rfl rfl ?_)|(apply H6;first|(refine c_call rfl rfl rfl (cC _) rfl rfl ?_;rintro _ _ ⟨gb2,gc2,hh1,rfl,rfl⟩)|(refine c_call rfl rfl rfl (cD _) rfl rfl ?_;rintro _ _ ⟨ob2,oc2,hh2,rfl,rfl⟩))|(apply H9;refine AU3 rfl rfl rfl rfl rfl rfl rfl rfl rfl ?_))|(apply U4;refine R5 (k:=0) I8 ?_)|(apply V6;first|(refine O9 rfl ?_)|(refine P8 rfl rfl rfl rfl (by kernel_rfl) (by decide+kernel) (by decide+kernel) ?_;apply Q0;refine I4 (E8 rfl rfl) ?_)|(refine P9 rfl ?_)|(refine R4 (by decide+kernel) ?_)|(refine S9 (by kernel_rfl) ?_))|(apply X4;first|(refine T9 rfl)|(refine U7 (by decide+kernel) ?_)|(refine U0 rfl ?_ ?_))|(refine K3 (id:=1) ?_;refine AA9 (b:=b) ?_))
    all_goals exact J6 (gb2,gc2,ob2,oc2) ⟨hh1,hh2⟩ (by repeat (first|exact Le.nil _|refine Le.cons (by (rfl)) ?_)) I8
  rintro ⟨gb2,gc2,ob2,oc2⟩ ⟨hh1,hh2⟩
  dsimp only at hh1 hh2 ⊢
  clear cC cD
  unfold scnC
  repeat' (first|(apply F3;first|(apply C8;refine A8 ?_)|(apply C9;refine D8 rfl rfl ?_)|(apply F4;refine F8 rfl rfl ?_;refine G6 rfl ?_)|(apply D6;refine D9 rfl rfl ?_)|(apply G7;refine G8 (E8 rfl rfl) rfl ?_)|(apply J5;refine s_call (Q5 rfl rfl) rfl ?_))|(apply D7)|(apply F6)|((fail_if_success (refine K3 (id:=4) ?_));apply A7)|(apply D5))
  refine R9 (α:=(List (Rx Qd)×List Ent)×Option Addr×Nat) (fun g=>[(1,.pointer (some ⟨b,0,none⟩)),(2,.pointer (some ⟨b0,0,none⟩)),(3,.slice g.2.1 g.1.1.length g.2.2),(15,.slice pa pn pc),(16,.int .i64 pn),(17,.int .i64 g.1.1.length)])
    (fun g=> .own 119 1 g.2.1 g.1.1.length g.2.2 (g.1.1.map rxV):: .blk b 41 (scnC s (some ⟨gb2,0,none⟩) gn gc2 (some ⟨ob2,0,none⟩) on oc2 pa pn pc):: .blk b0 41 scnZ:: .own 97 4 (some ⟨gb2,0,none⟩) gn gc2 (qds s.C)::(g.1.2++(.own 97 4 (some ⟨ob2,0,none⟩) on oc2 (qds s.D)::H)))
    (fun g=>g.1.1.length≤pn∧g.1.1.map (·.2.2)=s.past.take g.1.1.length∧RdX qds G g.1.2 g.1.1) (fun g=>pn-g.1.1.length) (([],[]),none,0) ⟨Nat.zero_le _,rfl,RdX.nil⟩ (by repeat (first|exact Le.nil _|refine Le.cons (by (rfl)) ?_)) (fun _ hw=>hw.nilrow _ _) ?_
  rintro ⟨⟨Y,E⟩,a,c⟩ ⟨hi,hY,hYr⟩
  dsimp only at hi hY hYr ⊢
  have hone:(Y.map (rxV (α:=Qd))).all (·.oneCell')=true:=by simp [List.all_map,Function.comp_def,rxV,Value.oneCell']
  have hly:(Y.map (rxV (α:=Qd))).length=Y.length * 1:=by rw[List.length_map,Nat.mul_one]
  generalize hYl:Y.length=k at *
  by_cases hlt:(k:Int)<pn
  · obtain⟨x,hx⟩:=AA3 (X:=X) (k:=k) (by rw[←Hn.out];omega)
    have hsl:=hr.at hx
    have hxp:s.past[k]? =some x.2.2:=by rw[←hX,List.getElem?_map,hx];rfl
    have hgx:=hrows _ (List.mem_of_getElem? hxp)
    have e1:take? ((X.map (rxV (α:=Qd))).drop ((k:Int).toNat * 1)) 1=some [rxV x]:=by
      rw[Int.toNat_natCast,Nat.mul_one]
      have hlt:=(List.getElem?_eq_some_iff.1 hx).1
      refine AK2 rfl ?_
      rw[List.drop_eq_getElem_cons (by rw[List.length_map];exact hlt),List.take_succ_cons,List.take_zero,List.getElem_map,(List.getElem?_eq_some_iff.1 hx).2]
    obtain⟨xa,xc,R⟩:=x
    have e1:take? ((X.map (rxV (α:=Qd))).drop ((k:Int).toNat * 1)) 1=some [.slice xa R.length xc]:=e1
    dsimp only at hgx hxp
    have hll:=hgx.len1
    have hRl:R.length=R.length:=rfl
    haveI hrd:RdC G H xa (qds R):=hsl.rd
    haveI hrd2:∀E',RdC G (E'++(.own 97 4 (some ⟨ob2,0,none⟩) on oc2 (qds s.D)::H)) xa (qds R):=fun E'=>⟨fun w hw=>hrd.here w ((hw.sub (List.sublist_append_right E' _)).drop)⟩
    haveI hrd3:∀E',RdC G (E'++(.own 97 4 (some ⟨ob2,0,none⟩) on oc2 (qds s.D)::H)) pa (X.map rxV):=fun E'=>⟨fun w hw=>h3.here w ((hw.sub (List.sublist_append_right E' _)).drop)⟩
    have cQ:=fun (H:List Ent) [RdC G H xa (qds R)]=>AQ5 G H R xa R.length xc rfl rfl (by omega)
    have hsn:s.past.take (k+1)=s.past.take k++[R]:=by
      have hl2:=(List.getElem?_eq_some_iff.1 hxp).1
      rw[List.take_succ_eq_append_getElem hl2,(List.getElem?_eq_some_iff.1 hxp).2]
    clear hX hr hsl hgx hx hrows HXl hxp
    repeat' (first|(apply F3;first|(apply C8;refine A8 ?_)|(apply C9;refine D8 rfl rfl ?_)|(apply E5;refine F5 rfl rfl rfl ?_;first|(apply M0;refine L9 ⟨by omega,by omega⟩ ?_)|refine F7 rfl ?_)|(apply F4;first|(refine F8 rfl rfl ?_;refine G6 rfl ?_)|(refine F8 rfl rfl ?_;refine Y5 e1 rfl ?_))|(apply D6;refine D9 rfl rfl ?_)|(apply G7;refine G8 (E8 rfl rfl) rfl ?_)|(apply P5;refine R7 (O6 rfl rfl rfl) rfl ?_)|(apply M4;refine N9 (K6 rfl rfl rfl hlx (by omega) (by omega)) rfl ?_)|(apply H6;refine c_call rfl rfl rfl (cQ _) rfl rfl ?_;rintro _ _ ⟨na,nc,rfl,rfl⟩)|(apply J5;refine R6 rfl rfl rfl rfl (by (rfl)) (by (rfl)) (by omega) rfl rfl (fun _ _=>?_))|(apply H9;refine M6 rfl rfl rfl rfl rfl rfl rfl rfl ?_)|(apply L6;refine O0 rfl rfl rfl rfl (fun _=>?_))|(apply V8;refine Ae5 rfl rfl rfl rfl rfl rfl rfl rfl rfl (fun _=>?_)))|(apply D7)|(apply G9)|(apply F6)|(apply A7)|(refine G5 rfl ?_;apply E9<;>intro hq<;>(try (exfalso;omega)))|(apply D5)|(apply J2))
    rename_i b5 b6 a2 c2
    have hlen:(Y++[((na,nc,R):Rx Qd)]).length=k+1:=by rw[List.length_append,hYl];rfl
    have hmap:(Y++[((na,nc,R):Rx Qd)]).map (rxV (α:=Qd))=Y.map rxV++[.slice na R.length nc]:=by rw[List.map_append];rfl
    refine J6 ((Y++[((na,nc,R):Rx Qd)],.own 97 4 na R.length nc (qds R)::E),a2,c2) ?_ ?_ ?_
    · dsimp only
      rw[hlen]
      refine⟨⟨by omega,by rw[List.map_append,hY,hsn];rfl,?_⟩,by omega⟩
      exact hYr.cons.snoc (Sl.own (e:=97) (sz:=4) (n:=R.length) (vs:=qds R) List.mem_cons_self rfl rfl)
    · dsimp only
      rw[hlen]
      exact(by repeat (first|exact Le.nil _|refine Le.cons (by (rfl)) ?_))
    · dsimp only
      rw[hlen,hmap]
      exact I8
  · obtain rfl:k=pn:=by omega
    have hYp:Y.map (·.2.2)=s.past:=by rw[hY,List.take_of_length_le (by rw[HXl.out];exact Nat.le_refl _)]
    unfold scnC
    repeat' (first|(apply F3;first|(apply C8;refine A8 ?_)|(apply C9;refine D8 rfl rfl ?_)|(apply E5;refine F5 rfl rfl rfl ?_;refine F7 rfl ?_)|(apply F4;refine F8 rfl rfl ?_;refine K5 rfl ?_)|(apply G7;refine G8 (E8 rfl rfl) rfl ?_)|(apply H9;first|refine U3 rfl rfl rfl rfl rfl rfl rfl ?_ |refine M6 rfl rfl rfl rfl rfl rfl rfl rfl ?_))|(apply D7)|(apply H7)|(apply N8)|(apply A7)|(refine G5 rfl ?_;apply E9<;>intro hq<;>(try (exfalso;omega)))|(apply D5)|(apply J7)|(apply J8))
    refine d9 (.own 97 4 (some ⟨gb2,0,none⟩) gn gc2 (qds s.C):: .own 119 1 a k c (Y.map rxV)::(E++(.own 97 4 (some ⟨ob2,0,none⟩) on oc2 (qds s.D)::H))) (.inr rfl) rfl rfl rfl I8 ?_
    exact⟨gb2,gc2,ob2,oc2,a,c,Y,E,by rw[hYl];rfl,by rw[hYl],hYr,hYp,hh1,hh2⟩
end
end Go.Proofs.YtmmnimagbnlcmaaGreatDoor
section
namespace Go.Sx
open Go Go.RowKit Go.Fw
/-- A block and two rows pulled to the front. -/
theorem Ai3 {P:Program} {G:Ctx} {f:FuncId} {args:List Value} {H H1 H2 H3:List Ent} {tb:Nat} {t:TypeId} {cs:List Value} {a1 a2:Option Addr} {e1 s1 n1 c1 e2 s2 n2 c2:Nat} {x1 x2:List Value} {R:Value→List Ent→Prop}
    [p1:PickBlk H tb t cs H1] [p2:PickOwn H1 a1 e1 s1 n1 c1 x1 H2] [p3:PickOwn H2 a2 e2 s2 n2 c2 x2 H3] (h:SC P G f args (.blk tb t cs:: .own e1 s1 a1 n1 c1 x1:: .own e2 s2 a2 n2 c2 x2::H3) R):SC P G f args H R:=
  ⟨h.1,fun w hw=>h.2 w ((hw.pick p1.here).perm (((p2.here.perm).trans ((p3.here.perm).cons _)).cons _))⟩
end Go.Sx
namespace Go.Proofs.YtmmnimagbnlcmaaGreatDoor
open Go Go.RowKit Go.Fw Go.Sx
set_option maxRecDepth 100000
set_option maxHeartbeats 2000000
attribute [local irreducible] SW SL SQ AtQ SV SC BB LD PK Yields SO SOT SOA SY
theorem Bw8 (G:Ctx) (H:List Ent) (a:Option Addr) (c:Nat) (f:Value):SV Tryz.prog G 150 [.slice a 0 c,f] H (.int .i64 (-1)):=by
  refine P7 Tryz.func150 rfl rfl rfl rfl rfl ?_
  repeat' (first|(apply F3;first|(apply C8;refine A8 ?_)|(apply C9;refine D8 rfl rfl ?_)|(apply D6;refine D9 rfl rfl ?_)|(apply J5;refine s_call (Q5 rfl rfl) rfl ?_))|(apply D7)|(apply F6)|((fail_if_success (refine K3 (id:=2) ?_));apply A7)|(apply D5))
  refine AF8 1 (AF9 ?_)
  repeat' (first|(apply F3;first|(apply C8;refine A8 ?_)|(apply E5;refine F5 rfl rfl rfl ?_;refine F7 rfl ?_)|(apply D6;refine D9 rfl rfl ?_))|(apply D7)|(apply H7)|(apply N8)|(apply A7)|(refine G5 rfl ?_;apply I5)|(apply D5)|(apply J7)|(apply J8))
  refine M3 (by (exact .inr rfl)) rfl N7 ?_
  rfl
theorem Bd6 (G:Ctx) (H:List Ent) (a:Option Addr) (c:Nat) (f:Value):SV Tryz.prog G 103 [.slice a 0 c,f] H (.bool false):=by
  have cI:=fun H=>Bw8 G H a c f
  refine P7 Tryz.func103 rfl rfl rfl rfl rfl ?_
  repeat' (first|(apply F3;first|(apply C8;refine A8 ?_)|(apply C9;refine D8 rfl rfl ?_)|(apply E5;refine F5 rfl rfl rfl ?_;refine F7 rfl ?_)|(apply D6;refine D9 rfl rfl ?_)|(apply H6;refine F9 rfl rfl rfl (cI _) rfl rfl ?_))|(apply D7)|(apply H7)|(apply A7)|(apply D5))
  refine M3 (by (exact .inr rfl)) rfl N7 ?_
  rfl
/-- Acts without numbers and texts. -/
def bare (y:Ac):Prop:=y.2.2.2.2.1.2.2=[]∧y.2.2.2.2.2=e0
theorem Ak0 (G:Ctx) (H:List Ent) (A:List Ac) {vs:List Value} (a:Option Addr) (n c:Nat) [h1:RdC G H a vs] (hv:vs=acs A) (hn:n=A.length) (hm:n≤1000000) (hb:∀y∈A,bare y):SV Tryz.prog G 57 [.slice a n c] H (.int .i64 0):=by
  have hlx:vs.length=n * 6:=by rw[hv,Af8,hn]
  have hel:∀(k:Nat) x,A[k]? =some x→take? (vs.drop ((k:Int).toNat * 6)) 6=some (acC x):=fun k x hx=>by subst hv;exact AX0 hx
  have cF:=fun (H:List Ent) (a:Option Addr) (c:Nat)=>Bd6 G H a c (.func (.func 104) #[] #[])
  have Hn:=Lib.hid hn
  clear hn hv
  refine M5 Tryz.func57 rfl rfl rfl rfl rfl ?_
  repeat' (first|(apply F3;first|(apply C8;refine A8 ?_)|(apply C9;refine D8 rfl rfl ?_)|(apply D6;refine D9 rfl rfl ?_)|(apply J5;refine s_call (Q5 rfl rfl) rfl ?_))|(apply D7)|(apply F6)|((fail_if_success (refine K3 (id:=2) ?_));apply A7)|(apply D5))
  refine R9 (α:=Nat) (fun k=>[(0,.slice a n c),(5,.slice a n c),(6,.int .i64 n),(7,.int .i64 k)]) (fun _=>H)
    (fun k=>k≤n) (fun k=>n-k) 0 (Nat.zero_le _) (by repeat (first|exact Le.nil _|refine Le.cons (by (rfl)) ?_)) I8 ?_
  intro k hk
  by_cases hlt:(k:Int)<n
  · obtain⟨x,hx⟩:=AA3 (X:=A) (k:=k) (by rw[←Hn.out];omega)
    have e1:=hel k x hx
    have hbx:=hb x (List.mem_of_getElem? hx)
    obtain⟨kk,cc,mm,ii,⟨ra,rc,L⟩,tt⟩:=x
    obtain⟨h2,h3⟩:=hbx
    dsimp only at h2 h3
    subst h2 h3
    have e1:take? (vs.drop ((k:Int).toNat * 6)) 6=some [.int .i64 kk,.int .i64 cc,.int .i64 mm,.string ii,.slice ra 0 rc,.string e0]:=e1
    clear hel hb hx
    repeat' (first|(apply F3;first|(apply C8;refine A8 ?_)|(apply C9;refine D8 rfl rfl ?_)|(apply E5;refine F5 rfl rfl rfl ?_;first|(apply M0;refine L9 ⟨by omega,by omega⟩ ?_)|refine F7 rfl ?_)|(apply F4;first|(refine F8 rfl rfl ?_;refine G6 rfl ?_)|(refine F8 rfl rfl ?_;refine Y5 e1 rfl ?_))|(apply I6;refine I9 rfl rfl ?_;apply O1;refine O3 rfl ?_)|(apply G7;refine G8 (E8 rfl rfl) rfl ?_)|(apply M4;refine N9 (K6 rfl rfl rfl hlx (by omega) (by omega)) rfl ?_)|(apply H6;refine F9 rfl rfl rfl (cF _ _ _) rfl rfl ?_)|(apply J5;first|refine s_call (Q5 rfl rfl) rfl ?_ |refine s_call (Q3 rfl rfl) rfl ?_)|(apply H9;refine M6 rfl rfl rfl rfl rfl rfl rfl rfl ?_)|(apply L6;refine O0 rfl rfl rfl rfl (fun _=>?_))|(apply I1;refine J9 rfl rfl rfl rfl ?_;apply I7))|(apply D7)|(apply G9)|(apply F6)|(apply A7)|(refine G5 rfl ?_;first|(apply I5)|(apply E9<;>intro hq<;>(try (exfalso;omega))))|(apply D5)|(apply J2))
    all_goals (skip)
    exact J6 (k+1) ⟨by omega,by omega⟩ (by repeat (first|exact Le.nil _|refine Le.cons (by (rfl)) ?_)) I8
  · obtain rfl:k=n:=by omega
    repeat' (first|(apply F3;first|(apply C8;refine A8 ?_)|(apply E5;refine F5 rfl rfl rfl ?_;refine F7 rfl ?_)|(apply D6;refine D9 rfl rfl ?_))|(apply D7)|(apply H7)|(apply N8)|(apply A7)|(refine G5 rfl ?_;apply E9<;>intro hq<;>(try (exfalso;omega)))|(apply D5)|(apply J7)|(apply J8))
    all_goals (skip)
    refine M3 (by (exact .inr rfl)) rfl N7 ?_
    rfl
/-- Where a screen's rows can be read. -/
structure ScRd (G:Ctx) (H:List Ent) (s:Scr) (ga:Option Addr) (gn gc:Nat) (oa:Option Addr) (on oc:Nat) (pa:Option Addr) (pn pc:Nat) (X:List (Rx Qd)):Prop where
  g:RdC G H ga (qds s.C)
  o:RdC G H oa (qds s.D)
  p:RdC G H pa (X.map rxV)
  r:RdX qds G H X
  x:X.map (·.2.2)=s.past
  gn':gn=s.C.length
  on':on=s.D.length
  pn':pn=X.length
  gc':gn≤gc
  oc':on≤oc
/-- What Run hands back. -/
def RunP (G:Ctx) (H:List Ent) (s':Scr) (v:Value) (H':List Ent):Prop:=
  ∃(ga:Option Addr) (gn gc:Nat) (oa:Option Addr) (on oc:Nat) (pa:Option Addr) (pn pc:Nat) (X:List (Rx Qd)) (E:List Ent),v= .tuple #[.agg (scnC s' ga gn gc oa on oc pa pn pc).toArray,.string ⟨#[]⟩,.int .i64 0]∧H'=E++H∧ScRd G E s' ga gn gc oa on oc pa pn pc X
theorem CG9 (G:Ctx) (H:List Ent) (s:Scr) (f:Fre s) (X:List (Rx Qd)) (ga:Option Addr) (gn gc:Nat) (oa:Option Addr) (on oc:Nat) (pa:Option Addr) (pn pc:Nat) (hS:ScRd G H s ga gn gc oa on oc pa pn pc X) (k c m:Int) (ii:ByteArray) (ra:Option Addr) (rc:Nat) (aa:Option Addr) (ac:Nat) [h4:RdC G H aa (acs [((k,c,m,ii,(ra,rc,[]),e0):Ac)])] (hk:(k=1∧(0≤c∧c≤127)∧H5 c=1)∨(k=2∧(c=13∨c=10))):
    SC Tryz.prog G 31 [.agg (scnC s ga gn gc oa on oc pa pn pc).toArray,.slice aa 1 ac] H (RunP G H (actS s k c)):=by
  obtain⟨h1,h2,h3,hr,hX,hgn,hon,hpn,hgc,hoc⟩:=hS
  have cK:=fun (H':List Ent) (hh:∀w,Holds G H' w→Holds G H w)=>by
    haveI:RdC G H' ga (qds s.C):=⟨fun w hw=>h1.here w (hh w hw)⟩
    haveI:RdC G H' oa (qds s.D):=⟨fun w hw=>h2.here w (hh w hw)⟩
    haveI:RdC G H' pa (X.map rxV):=⟨fun w hw=>h3.here w (hh w hw)⟩
    exact AI7 G H' s f X ga gn gc oa on oc pa pn pc hgn hgc hon hoc hpn hX (hr.mono hh)
  have cC:=fun (H':List Ent) (hh:∀w,Holds G H' w→Holds G H w)=>by
    haveI:RdC G H' ga (qds s.C):=⟨fun w hw=>h1.here w (hh w hw)⟩
    haveI:RdC G H' oa (qds s.D):=⟨fun w hw=>h2.here w (hh w hw)⟩
    haveI:RdC G H' pa (X.map rxV):=⟨fun w hw=>h3.here w (hh w hw)⟩
    exact AP5 G H' s f X ga gn gc oa on oc pa pn pc hgn hon hpn hX (hr.mono hh)
  have cA:=fun (H':List Ent) (h:RdC G H' aa (acs [((k,c,m,ii,(ra,rc,[]),e0):Ac)]))=>Ak0 G H' [((k,c,m,ii,(ra,rc,[]),e0):Ac)] aa 1 ac rfl rfl (by decide) (fun y hy=>by rw[List.mem_singleton] at hy;subst hy;exact⟨rfl,rfl⟩)
  have e1:take? ((acs [((k,c,m,ii,(ra,rc,[]),e0):Ac)]).drop ((0:Int).toNat * 6)) 6=some [.int .i64 k,.int .i64 c,.int .i64 m,.string ii,.slice ra 0 rc,.string e0]:=rfl
  have hlx:(acs [((k,c,m,ii,(ra,rc,[]),e0):Ac)]).length=1 * 6:=rfl
  generalize acs [((k,c,m,ii,(ra,rc,[]),e0):Ac)]=vs at *
  refine J3 Tryz.func31 rfl rfl rfl rfl rfl ?_
  repeat' (first|(apply F3;first|(apply C8;refine A8 ?_)|(apply C9;refine D8 rfl rfl ?_)|(apply E5;refine F5 rfl rfl rfl ?_;refine F7 rfl ?_)|(apply F4;refine F8 rfl rfl ?_;refine K5 rfl ?_)|(apply D6;refine D9 rfl rfl ?_)|(apply P5;refine R7 (O6 rfl rfl rfl) rfl ?_)|(apply H6;first|refine F9 rfl rfl rfl (cK _ I8) rfl rfl ?_ |refine F9 rfl rfl rfl (cA _ inferInstance) rfl rfl ?_ |(refine c_call rfl rfl rfl (cC _ I8) rfl rfl ?_;rintro _ _ ⟨gb2,gc2,ob2,oc2,pa2,pc2,Y,E,rfl,rfl,r1,r2,r3,r4⟩))|(apply J5;refine s_call (Q5 rfl rfl) rfl ?_)|(apply K9;refine O5 rfl rfl rfl rfl rfl rfl (fun _=>?_))|(apply L6;refine O0 rfl rfl rfl rfl (fun _=>?_)))|(apply D7)|(apply G9)|(apply F6)|((fail_if_success (refine K3 (id:=9) ?_));apply A7)|(refine G5 rfl ?_;apply I5)|(apply D5))
  all_goals (skip)
  rename_i b2 b4 tb
  have cT:=fun (K':List Ent)=>BW0 G K' E s k c m ii e0 ra 0 rc tb gb2 gn gc2 (some ⟨ob2,0,none⟩) on oc2 pa2 Y.length pc2 ByteArray.empty Y hk f.pl hgn r3 r2 r1 rfl
  have hfs:=f.act hk
  have hsz:=A90 s k c
  have hCl:(actS s k c).C.length=s.C.length:=by rw[hfs.pl.g.len,f.pl.g.len,hsz.1,hsz.2.1]
  rw[←hCl] at hgn
  rw[←hsz.2.2] at hon
  have hD:qds s.D=qds (actS s k c).D:=by rw[hsz.2.2]
  rw[hD]
  generalize actS s k c=s2 at *
  unfold tmH TmP at cT
  clear cK cC cA
  refine AF8 2 (AF9 ?_)
  repeat' (first|(apply F3;first|(apply C8;refine A8 ?_)|(apply C9;refine D8 rfl rfl ?_)|(apply E5;refine F5 rfl rfl rfl ?_;first|(apply M0;refine L9 ⟨by omega,by omega⟩ ?_)|refine F7 rfl ?_)|(apply F4;first|(refine F8 rfl rfl ?_;refine K5 rfl ?_)|(refine F8 rfl rfl ?_;refine Y5 e1 rfl ?_))|(apply M4;refine N9 (K6 rfl rfl rfl hlx (by omega) (by omega)) rfl ?_)|(apply H6;refine c_call rfl rfl rfl (Ai3 (tb:=tb) (a1:=some ⟨gb2,0,none⟩) (a2:=pa2) (cT _)) rfl rfl ?_;rintro _ _ ⟨E2,pa3,pc3,X3,rfl,rfl,q1,q2,q3,q4⟩)|(apply H9;refine M6 rfl rfl rfl rfl rfl rfl rfl rfl ?_)|(apply L6;refine O0 rfl rfl rfl rfl (fun _=>?_)))|(apply D7)|(apply AN0)|(apply G9)|(apply N8)|(apply F6)|((fail_if_success (refine K3 (id:=13) ?_));apply A7)|(refine G5 rfl ?_;first|(apply I7)|(apply I5))|(apply D5)|(apply J7)|(apply J2)|(apply J8))
  all_goals (skip)
  rename_i b11
  clear cT
  repeat' (first|(apply F3;first|(apply C8;refine A8 ?_)|(apply H9;refine M6 rfl rfl rfl rfl rfl rfl rfl rfl ?_))|(apply U4;refine R5 (k:=0) I8 ?_)|(apply V6;first|(refine O9 rfl ?_)|(refine P8 rfl rfl rfl rfl (by kernel_rfl) (by decide+kernel) (by decide+kernel) ?_;first|(apply U5;refine I4 (V4 rfl rfl) ?_)|(apply U9;refine U6 rfl ?_;first|refine G6 rfl ?_ |refine L8 rfl rfl ?_)|(apply Z0;refine I4 (X7 rfl rfl) ?_)|(apply Q0;refine I4 (E8 rfl rfl) ?_)|(apply Y7;refine I4 (H8 rfl rfl) ?_))|(refine P9 rfl ?_)|(refine R4 (by decide+kernel) ?_)|(refine S9 (by kernel_rfl) ?_))|(apply X4;first|(refine T9 rfl)|(refine U7 (by decide+kernel) ?_)|(refine U0 rfl ?_ ?_))|(apply H7)|(apply D5)|(refine K3 (id:=13) ?_;refine AA9 (b:=b4) ?_))
  all_goals
    have hE:∀w,Holds G (.own 97 4 (some ⟨gb2,0,none⟩) gn gc2 (qds s2.C)::(E2++(E++[.own 97 4 (some ⟨ob2,0,none⟩) on oc2 (qds s2.D)]))) w→Holds G (E2++E) w:=fun w hw=>hw.sub (by
      exact List.Sublist.cons _ ((List.Sublist.refl E2).append (List.sublist_append_left E _)))
    refine d9 ((.own 97 4 (some ⟨gb2,0,none⟩) gn gc2 (qds s2.C)::(E2++(E++[.own 97 4 (some ⟨ob2,0,none⟩) on oc2 (qds s2.D)])))++H) (.inr rfl) rfl rfl rfl (fun w hw=>hw.sub (by
      rw[List.cons_append,List.append_assoc,List.append_assoc]
      exact List.Sublist.cons _ (List.Sublist.cons _ (List.Sublist.cons_cons _ ((List.Sublist.refl E2).append (List.Sublist.cons _ ((List.Sublist.refl E).append (List.Sublist.cons_cons _ (List.Sublist.cons _ (List.Sublist.refl H)))))))))) ?_
    exact⟨some ⟨gb2,0,none⟩,gn,gc2,some ⟨ob2,0,none⟩,on,oc2,pa3,X3.length,pc3,X3,_,rfl,rfl,⟨inferInstanceAs (RdC G (.own 97 4 (some ⟨gb2,0,none⟩) gn gc2 (qds s2.C)::_) _ _),⟨Rd.mem (e:=97) (size:=4) (n:=on) (c:=oc2) (by simp)⟩,⟨fun w hw=>q1.here w (hE w hw)⟩,q2.mono hE,q3,hgn,hon,rfl,r3,r4⟩⟩
theorem CJ1 (G:Ctx) (H:List Ent) (s:Scr) (f:Fre s) (X:List (Rx Qd)) (ga:Option Addr) (gn gc:Nat) (oa:Option Addr) (on oc:Nat) (pa:Option Addr) (pn pc:Nat) (hS:ScRd G H s ga gn gc oa on oc pa pn pc X) (m m2:Int) (ii ii2:ByteArray) (ra ra2:Option Addr) (rc rc2:Nat) (aa:Option Addr) (ac:Nat) [h4:RdC G H aa (acs [((2,13,m,ii,(ra,rc,[]),e0):Ac),((2,10,m2,ii2,(ra2,rc2,[]),e0):Ac)])]:
    SC Tryz.prog G 31 [.agg (scnC s ga gn gc oa on oc pa pn pc).toArray,.slice aa 2 ac] H (RunP G H (V5 (homeS s))):=by
  obtain⟨h1,h2,h3,hr,hX,hgn,hon,hpn,hgc,hoc⟩:=hS
  have cK:=fun (H':List Ent) (hh:∀w,Holds G H' w→Holds G H w)=>by
    haveI:RdC G H' ga (qds s.C):=⟨fun w hw=>h1.here w (hh w hw)⟩
    haveI:RdC G H' oa (qds s.D):=⟨fun w hw=>h2.here w (hh w hw)⟩
    haveI:RdC G H' pa (X.map rxV):=⟨fun w hw=>h3.here w (hh w hw)⟩
    exact AI7 G H' s f X ga gn gc oa on oc pa pn pc hgn hgc hon hoc hpn hX (hr.mono hh)
  have cC:=fun (H':List Ent) (hh:∀w,Holds G H' w→Holds G H w)=>by
    haveI:RdC G H' ga (qds s.C):=⟨fun w hw=>h1.here w (hh w hw)⟩
    haveI:RdC G H' oa (qds s.D):=⟨fun w hw=>h2.here w (hh w hw)⟩
    haveI:RdC G H' pa (X.map rxV):=⟨fun w hw=>h3.here w (hh w hw)⟩
    exact AP5 G H' s f X ga gn gc oa on oc pa pn pc hgn hon hpn hX (hr.mono hh)
  have cA:=fun (H':List Ent) (h:RdC G H' aa (acs [((2,13,m,ii,(ra,rc,[]),e0):Ac),((2,10,m2,ii2,(ra2,rc2,[]),e0):Ac)]))=>Ak0 G H' [((2,13,m,ii,(ra,rc,[]),e0):Ac),((2,10,m2,ii2,(ra2,rc2,[]),e0):Ac)] aa 2 ac rfl rfl (by decide) (fun y hy=>by
    rcases List.mem_cons.1 hy with rfl|hy
    · exact⟨rfl,rfl⟩
    · rw[List.mem_singleton] at hy;subst hy;exact⟨rfl,rfl⟩)
  have e1:take? ((acs [((2,13,m,ii,(ra,rc,[]),e0):Ac),((2,10,m2,ii2,(ra2,rc2,[]),e0):Ac)]).drop ((0:Int).toNat * 6)) 6=some [.int .i64 2,.int .i64 13,.int .i64 m,.string ii,.slice ra 0 rc,.string e0]:=rfl
  have e2:take? ((acs [((2,13,m,ii,(ra,rc,[]),e0):Ac),((2,10,m2,ii2,(ra2,rc2,[]),e0):Ac)]).drop (((0:Int)+1).toNat * 6)) 6=some [.int .i64 2,.int .i64 10,.int .i64 m2,.string ii2,.slice ra2 0 rc2,.string e0]:=rfl
  have hlx:(acs [((2,13,m,ii,(ra,rc,[]),e0):Ac),((2,10,m2,ii2,(ra2,rc2,[]),e0):Ac)]).length=2 * 6:=rfl
  generalize acs [((2,13,m,ii,(ra,rc,[]),e0):Ac),((2,10,m2,ii2,(ra2,rc2,[]),e0):Ac)]=vs at *
  refine J3 Tryz.func31 rfl rfl rfl rfl rfl ?_
  repeat' (first|(apply F3;first|(apply C8;refine A8 ?_)|(apply C9;refine D8 rfl rfl ?_)|(apply E5;refine F5 rfl rfl rfl ?_;refine F7 rfl ?_)|(apply F4;refine F8 rfl rfl ?_;refine K5 rfl ?_)|(apply D6;refine D9 rfl rfl ?_)|(apply P5;refine R7 (O6 rfl rfl rfl) rfl ?_)|(apply H6;first|refine F9 rfl rfl rfl (cK _ I8) rfl rfl ?_ |refine F9 rfl rfl rfl (cA _ inferInstance) rfl rfl ?_ |(refine c_call rfl rfl rfl (cC _ I8) rfl rfl ?_;rintro _ _ ⟨gb2,gc2,ob2,oc2,pa2,pc2,Y,E,rfl,rfl,r1,r2,r3,r4⟩))|(apply J5;refine s_call (Q5 rfl rfl) rfl ?_)|(apply K9;refine O5 rfl rfl rfl rfl rfl rfl (fun _=>?_))|(apply L6;refine O0 rfl rfl rfl rfl (fun _=>?_)))|(apply D7)|(apply G9)|(apply F6)|((fail_if_success (refine K3 (id:=9) ?_));apply A7)|(refine G5 rfl ?_;apply I5)|(apply D5))
  all_goals (skip)
  rename_i b2 b4 tb
  have cT1:=fun (K':List Ent)=>Bb8 G K' s m ii e0 ra 0 rc tb gb2 gn gc2 (some ⟨ob2,0,none⟩) on oc2 pa2 Y.length pc2 ByteArray.empty Y f.pl
  have fh:=f.home
  have hCh:(homeS s).C=s.C:=rfl
  have cT:=fun (K':List Ent)=>BW0 G K' E (homeS s) 2 10 m2 ii2 e0 ra2 0 rc2 tb gb2 gn gc2 (some ⟨ob2,0,none⟩) on oc2 pa2 Y.length pc2 ByteArray.empty Y (.inr ⟨rfl,.inr rfl⟩) fh.pl hgn r3 r2 r1 rfl
  have e10:actS (homeS s) 2 10=V5 (homeS s):=rfl
  have hfs:=fh.act (k:=2) (c:=10) (.inr ⟨rfl,.inr rfl⟩)
  have hsz:=A90 (homeS s) 2 10
  rw[e10] at cT hfs hsz
  have hCl:(V5 (homeS s)).C.length=s.C.length:=by rw[hfs.pl.g.len,f.pl.g.len,hsz.1,hsz.2.1];rfl
  rw[←hCl] at hgn
  have hD0:(V5 (homeS s)).D=s.D:=hsz.2.2
  rw[←hD0] at hon
  have hD:qds s.D=qds (V5 (homeS s)).D:=by rw[hD0]
  rw[hD]
  generalize V5 (homeS s)=s2 at *
  unfold tmH TmP at cT
  unfold tmH at cT1
  clear cK cC cA
  refine AF8 3 (AF9 ?_)
  repeat' (first|(apply F3;first|(apply C8;refine A8 ?_)|(apply C9;refine D8 rfl rfl ?_)|(apply E5;refine F5 rfl rfl rfl ?_;first|(apply M0;refine L9 ⟨by omega,by omega⟩ ?_)|refine F7 rfl ?_)|(apply F4;first|(refine F8 rfl rfl ?_;refine K5 rfl ?_)|(refine F8 rfl rfl ?_;first|refine Y5 e1 rfl ?_ |refine Y5 e2 rfl ?_))|(apply M4;refine N9 (K6 rfl rfl rfl hlx (by omega) (by omega)) rfl ?_)|(apply H6;first|(refine c_call rfl rfl rfl (Ai3 (tb:=tb) (a1:=some ⟨gb2,0,none⟩) (a2:=pa2) (cT1 _)) rfl rfl ?_;rintro _ _ ⟨rfl,rfl⟩)|(refine c_call rfl rfl rfl (Ai3 (tb:=tb) (a1:=some ⟨gb2,0,none⟩) (a2:=pa2) (cT _)) rfl rfl ?_;rintro _ _ ⟨E2,pa3,pc3,X3,rfl,rfl,q1,q2,q3,q4⟩))|(apply H9;refine M6 rfl rfl rfl rfl rfl rfl rfl rfl ?_)|(apply L6;refine O0 rfl rfl rfl rfl (fun _=>?_)))|(apply D7)|(apply AN0)|(apply G9)|(apply N8)|(apply F6)|((fail_if_success (refine K3 (id:=13) ?_));apply A7)|(refine G5 rfl ?_;first|(apply I7)|(apply I5))|(apply D5)|(apply J7)|(apply J2)|(apply J8))
  all_goals (skip)
  rename_i b11 b12
  clear cT cT1
  repeat' (first|(apply F3;first|(apply C8;refine A8 ?_)|(apply H9;refine M6 rfl rfl rfl rfl rfl rfl rfl rfl ?_))|(apply U4;refine R5 (k:=0) I8 ?_)|(apply V6;first|(refine O9 rfl ?_)|(refine P8 rfl rfl rfl rfl (by kernel_rfl) (by decide+kernel) (by decide+kernel) ?_;first|(apply U5;refine I4 (V4 rfl rfl) ?_)|(apply U9;refine U6 rfl ?_;first|refine G6 rfl ?_ |refine L8 rfl rfl ?_)|(apply Z0;refine I4 (X7 rfl rfl) ?_)|(apply Q0;refine I4 (E8 rfl rfl) ?_)|(apply Y7;refine I4 (H8 rfl rfl) ?_))|(refine P9 rfl ?_)|(refine R4 (by decide+kernel) ?_)|(refine S9 (by kernel_rfl) ?_))|(apply X4;first|(refine T9 rfl)|(refine U7 (by decide+kernel) ?_)|(refine U0 rfl ?_ ?_))|(apply H7)|(apply D5)|(refine K3 (id:=13) ?_;refine AA9 (b:=b4) ?_))
  all_goals
    have hE:∀w,Holds G (.own 97 4 (some ⟨gb2,0,none⟩) gn gc2 (qds s2.C)::(E2++(E++[.own 97 4 (some ⟨ob2,0,none⟩) on oc2 (qds s2.D)]))) w→Holds G (E2++E) w:=fun w hw=>hw.sub (by
      exact List.Sublist.cons _ ((List.Sublist.refl E2).append (List.sublist_append_left E _)))
    refine d9 ((.own 97 4 (some ⟨gb2,0,none⟩) gn gc2 (qds s2.C)::(E2++(E++[.own 97 4 (some ⟨ob2,0,none⟩) on oc2 (qds s2.D)])))++H) (.inr rfl) rfl rfl rfl (fun w hw=>hw.sub (by
      rw[List.cons_append,List.append_assoc,List.append_assoc]
      exact List.Sublist.cons _ (List.Sublist.cons _ (List.Sublist.cons_cons _ ((List.Sublist.refl E2).append (List.Sublist.cons _ (List.Sublist.cons _ ((List.Sublist.refl E).append (List.Sublist.cons_cons _ (List.Sublist.cons _ (List.Sublist.refl H))))))))))) ?_
    exact⟨some ⟨gb2,0,none⟩,gn,gc2,some ⟨ob2,0,none⟩,on,oc2,pa3,X3.length,pc3,X3,_,rfl,rfl,⟨inferInstanceAs (RdC G (.own 97 4 (some ⟨gb2,0,none⟩) gn gc2 (qds s2.C)::_) _ _),⟨Rd.mem (e:=97) (size:=4) (n:=on) (c:=oc2) (by simp)⟩,⟨fun w hw=>q1.here w (hE w hw)⟩,q2.mono hE,q3,hgn,hon,rfl,r3,r4⟩⟩
end Go.Proofs.YtmmnimagbnlcmaaGreatDoor
end
namespace Go.Proofs.YtmmnimagbnlcmaaGreatDoor
open Go Go.RowKit Go.Fw Go.Sx
set_option maxRecDepth 100000
section
set_option maxHeartbeats 1000000
theorem CF6 {P:Program} {G:Ctx} {f:FuncId} {args:List Value} {H:List Ent} {R:Value→List Ent→Prop} (hc:Sx.Callee P f) (h:∀w,Holds G H w→Calls P f args.toArray w fun e w'=>∃v H',e= .returned v∧Holds G H' w'∧R v H'):SC P G f args H R:=⟨hc,h⟩
attribute [local irreducible] SW SL SQ AtQ SV SC BB LD PK Yields SO SOT SOA SY
theorem Bj7 (G:Ctx) (H:List Ent) (m:Int) (hm:∀w,Holds G H w→w.cell? ⟨2,0,none⟩=some (.int .i64 m)) (s:ByteArray) (c:UInt8) (hs:s.size≤4000000):SC Tryz.prog G 146 [.string s,.string ⟨#[c]⟩] H fun v H'=>∃b,v= .slice (some ⟨b,0,none⟩) (AF5 c s).length (AF5 c s).length∧H'= .blk b 9 (strs (AF5 c s))::H:=by
  refine CF6 (j6 Tryz.func146 rfl rfl) fun w hw=>?_
  have h:=Tryz.strings_Split s ⟨#[c]⟩ m w (by omega) (hm w hw) (Nat.le_refl 1)
  rw[A30,Ab9] at h
  exact h.mono fun e w' ⟨he,hw'⟩=>⟨_,_,he,hw'▸hw.alloc _ _,_,rfl,rfl⟩
end
section
set_option maxHeartbeats 1000000
theorem BB1 (s:ByteArray):(AF5 59 s).length≤s.size+1:=by
  unfold AF5
  rw[List.length_map]
  have:∀(l acc:List UInt8),(u7 59 acc l).length≤l.length+1:=by
    intro l
    induction l with
    | nil=>intro acc;simp [u7]
    | cons b l ih=>
      intro acc
      unfold u7
      split
      · have:=ih [];simp;omega
      · have:=ih (acc++[b]);simp;omega
  exact this s.data.toList []
theorem BH7:∀(j:Nat) b,cutA.data.toList[j]? =some b→b.toNat<128:=fun j b h=>by
  have:∀b∈cutA.data.toList,b.toNat<128:=by decide
  exact this b (List.mem_of_getElem? h)
def numW (w:ByteArray):Int:=numA (nums w)
attribute [local irreducible] SW SL SQ AtQ SV SC BB LD PK Yields SO SOT SOA SY
theorem Ag7 (G:Ctx) (H:List Ent) (m:Int) (hm:∀H w,Holds G H w→w.cell? ⟨2,0,none⟩=some (.int .i64 m)) (s:ByteArray) (hs:s.size≤2000000):SC Tryz.prog G 93 [.string s] H (fun v H'=>∃a' c',v= .tuple #[.slice a' (readA s).1.length c',.int .i64 (readA s).2]∧H'= .own 3 1 a' (readA s).1.length c' (ints (readA s).1)::H):=by
  have cT:=fun H=>BU7 G H cutA s (by decide) (by decide) (by omega) BH7
  have cS:=fun H=>Bj7 G H m (hm H) s 59 (by omega)
  have hall:(tlN (inS cutA) (trN (inS cutA) (nums s))=[])↔(nums s).all okA=true:=by
    rw[Bc5]
    have:∀l:List Int,(∀x∈l,0≤x∧x≤255)→l.all (inS cutA)=l.all okA:=fun l=>by
      induction l with
      | nil=>exact fun _=>rfl
      | cons x l ih=>exact fun h=>by rw[List.all_cons,List.all_cons,Br8 x (h x List.mem_cons_self),ih (fun y hy=>h y (List.mem_cons_of_mem _ hy))]
    rw[this _ (AD5 s)]
  generalize tlN (inS cutA) (trN (inS cutA) (nums s))=t at *
  have hts:strOfNums t=⟨#[]⟩↔t=[]:=⟨fun h=>by have:=congrArg ByteArray.size h;rw[strOfNums_size] at this;exact List.eq_nil_of_length_eq_zero this,fun h=>by subst h;rfl⟩
  unfold readA
  by_cases hok:(nums s).all okA=true
  · rw[if_pos hok]
    have ht0:strOfNums t=⟨#[]⟩:=hts.2 (hall.2 hok)
    rw[ht0] at cT
    have hW:=fun w hw=>Ay1 s hok w hw
    have hWc:=BB1 s
    have hok2:∀(i:Nat) (x:Int),(nums s)[i]? =some x→(48≤x∧x≤57)∨x=59:=fun i x h=>by
      rw[List.all_eq_true] at hok
      have:=hok x (List.mem_of_getElem? h)
      unfold okA at this
      rw[decide_eq_true_eq] at this
      omega
    have hbd:=AD5 s
    have hlen:=nums_length s
    have hmap:∀l:List ByteArray,l.map (fun w=>numA (nums w))=l.map numW:=fun _=>rfl
    rw[hmap]
    generalize AF5 59 s=L at *
    have Hok2:=Lib.hid hok2
    have HW:=Lib.hid hW
    have Hbd:=Lib.hid hbd
    clear hok2 hbd hall hts ht0 hok hm hmap
    refine Y3 Tryz.func93 rfl rfl rfl rfl rfl ?_
    repeat' (first|(apply F3;first|(apply C8;refine A8 ?_)|(apply C9;refine D8 rfl rfl ?_)|(apply E5;refine F5 rfl rfl rfl ?_;refine AI0 ?_)|(apply D6;refine D9 rfl rfl ?_)|(apply H6;refine F9 rfl rfl rfl (cT _) rfl rfl ?_)|(apply J5;refine s_call (Q3 rfl rfl) rfl ?_))|(apply D7)|(apply G9)|(apply F6)|(apply A7)|(refine G5 rfl ?_;apply I5)|(apply D5))
    all_goals (skip)
    refine R9 (α:=Nat) (fun i=>[(0,.string s),(14,.int .i64 s.size),(13,.string s),(15,.int .i64 i)]) (fun _=>H) (fun i=>i≤s.size) (fun i=>s.size-i) 0 (Nat.zero_le _) (by repeat (first|exact Le.nil _|refine Le.cons (by (rfl)) ?_)) I8 ?_
    intro i hi
    by_cases hlt:i<s.size
    · obtain⟨x,hx⟩:=AA3 (X:=nums s) (k:=i) (by omega)
      have hv:(nums s).getD (i:Int).toNat 0=x:=by rw[List.getD_eq_getElem?_getD,show (i:Int).toNat=i from rfl,hx];rfl
      have hxo:=Hok2.out i x hx
      clear hx cT cS
      rcases hxo with hxo|hxo
      · repeat' (first|(apply F3;first|(apply C8;refine A8 ?_)|(apply C9;refine D8 rfl rfl ?_)|(apply E5;refine F5 rfl rfl rfl ?_;first|(apply M0;refine L9 ⟨by omega,by omega⟩ ?_)|refine F7 rfl ?_)|(apply D6;refine D9 rfl rfl ?_)|(apply I6;refine I9 rfl rfl ?_;first|(apply Q9;refine Q8 rfl ?_)|(apply O1;refine O3 rfl ?_))|(apply U8;refine W9 (Z5 hv rfl rfl rfl (by omega) (by omega)) rfl ?_)|(apply I1;refine J9 rfl rfl rfl rfl ?_;first|(apply I7)|(apply O8<;>intro hq<;>(try (exfalso;omega)))|(apply X6<;>intro hq<;>(try (exfalso;omega)))))|(apply D7)|(apply G9)|(apply F6)|(apply A7)|(refine G5 rfl ?_;apply E9<;>intro hq<;>(try (exfalso;omega)))|(apply D5)|(apply J2))
        all_goals (exact J6 (i+1) ⟨by omega,by omega⟩ (by repeat (first|exact Le.nil _|refine Le.cons (by (rfl)) ?_)) I8)
      · repeat' (first|(apply F3;first|(apply C8;refine A8 ?_)|(apply C9;refine D8 rfl rfl ?_)|(apply E5;refine F5 rfl rfl rfl ?_;first|(apply M0;refine L9 ⟨by omega,by omega⟩ ?_)|refine F7 rfl ?_)|(apply D6;refine D9 rfl rfl ?_)|(apply I6;refine I9 rfl rfl ?_;apply O1;refine O3 rfl ?_)|(apply U8;refine W9 (Z5 hv rfl rfl rfl (by omega) (by omega)) rfl ?_)|(apply I1;first|(refine J9 rfl rfl rfl rfl ?_;first|(apply I5)|(apply X6<;>intro hq<;>(try (exfalso;omega))))|refine o5 rfl rfl rfl rfl rfl rfl ?_))|(apply D7)|(apply G9)|(apply F6)|(apply A7)|(refine G5 rfl ?_;first|(apply I5)|(apply E9<;>intro hq<;>(try (exfalso;omega))))|(apply D5)|(apply J2))
        all_goals (exact J6 (i+1) ⟨by omega,by omega⟩ (by repeat (first|exact Le.nil _|refine Le.cons (by (rfl)) ?_)) I8)
    · repeat' (first|(apply F3;first|(apply C8;refine A8 ?_)|(apply C9;refine D8 rfl rfl ?_)|(apply E5;refine F5 rfl rfl rfl ?_;refine F7 rfl ?_)|(apply D6;refine D9 rfl rfl ?_)|(apply H6;refine c_call rfl rfl rfl (cS _) rfl rfl ?_;rintro _ _ ⟨bL,rfl,rfl⟩)|(apply J5;refine s_call (Q5 rfl rfl) rfl ?_))|(apply D7)|(apply N8)|(apply F6)|((fail_if_success (refine K3 (id:=11) ?_));apply A7)|(refine G5 rfl ?_;apply E9<;>intro hq<;>(try (exfalso;omega)))|(apply D5)|(apply J7)|(apply J8))
      all_goals (skip)
      have hlx:(strs L).length=L.length * 1:=by simp [strs]
      refine R9 (α:=Nat×Option Addr×Nat) (fun g=>[(5,.slice g.2.1 ((L.take g.1).map numW).length g.2.2),(36,.slice (some ⟨bL,0,none⟩) L.length L.length),(37,.int .i64 L.length),(38,.int .i64 g.1)]) (fun g=> .own 3 1 g.2.1 ((L.take g.1).map numW).length g.2.2 (ints ((L.take g.1).map numW)):: .blk bL 9 (strs L)::H)
        (fun g=>g.1≤L.length∧g.1≤32) (fun g=>L.length-g.1) (0,none,0) ⟨Nat.zero_le _,by decide⟩ (by repeat (first|exact Le.nil _|refine Le.cons (by (rfl)) ?_)) (fun _ hw=>(hw.nilrow _ _).subs (by repeat (first|refine Subs.cons (by repeat constructor) ?_ |exact Subs.sub N7))) ?_
      rintro ⟨j,a,c⟩ ⟨hj,hj32⟩
      dsimp only at hj hj32 ⊢
      have hol:((L.take j).map numW).length=j:=by rw[List.length_map,List.length_take];omega
      by_cases hjl:j<L.length
      · obtain⟨w,hw⟩:=AA3 (X:=L) (k:=j) (by omega)
        have hwi:(strs L)[(j:Int).toNat * 1]? =some (.string w):=by simp [strs,hw]
        obtain⟨hwd,hwz⟩:=HW.out w (List.mem_of_getElem? hw)
        by_cases h32:j=32
        · rw[hol]
          repeat' (first|(apply F3;first|(apply C8;refine A8 ?_)|(apply C9;refine D8 rfl rfl ?_)|(apply E5;refine F5 rfl rfl rfl ?_;refine F7 rfl ?_)|(apply F4;refine F8 rfl rfl ?_;refine X5 hwi ?_)|(apply D6;refine D9 rfl rfl ?_)|(apply M4;refine N9 (K6 rfl rfl rfl hlx (by omega) (by omega)) rfl ?_)|(apply J5;refine s_call (Q5 rfl rfl) rfl ?_))|(apply D7)|(apply G9)|(apply H7)|(apply N8)|(apply F6)|(apply A7)|(refine G5 rfl ?_;apply E9<;>intro hq<;>(try (exfalso;omega)))|(apply D5)|(apply J7)|(apply J8)|refine AI5 rfl ?_)
          all_goals (skip)
          subst h32
          exact M9 (.own 3 1 a 32 c (ints ((L.take 32).map numW))::H) (by (exact .inr rfl)) rfl I8 ⟨a,c,by rw[hol];rfl,by rw[hol]⟩
        · have hnx:(L.take (j+1)).map numW=(L.take j).map numW++[numW w]:=by
            rw[List.take_succ_eq_append_getElem hjl,List.map_append]
            have:L[j]=w:=(List.getElem?_eq_some_iff.1 hw).2
            rw[this];rfl
          have hnl:=nums_length w
          have hpre:∀k,-1≤numA ((nums w).take k)∧numA ((nums w).take k)≤16383:=fun k=>By1 _ (fun x hx=>hwd x (List.mem_of_mem_take hx))
          have hstep:∀(k:Nat) (d:Int),(nums w)[k]? =some d→numA ((nums w).take (k+1))=stepA (numA ((nums w).take k)) d∧48≤d∧d≤57:=fun k d h=>by
            obtain⟨h1,h2⟩:=List.getElem?_eq_some_iff.1 h
            rw[List.take_succ_eq_append_getElem h1,Ar6,h2]
            exact⟨rfl,hwd d (List.mem_of_getElem? h)⟩
          have hend:numA ((nums w).take w.size)=numW w:=by rw[←nums_length,List.take_length];rfl
          have Hpre:=Lib.hid hpre
          have Hstep:=Lib.hid hstep
          have Hnx:=Lib.hid hnx
          clear hpre hstep hnx hw hwd cT cS
          rw[hol]
          repeat' (first|(apply F3;first|(apply C8;refine A8 ?_)|(apply C9;refine D8 rfl rfl ?_)|(apply E5;refine F5 rfl rfl rfl ?_;refine F7 rfl ?_)|(apply F4;refine F8 rfl rfl ?_;refine X5 hwi ?_)|(apply D6;refine D9 rfl rfl ?_)|(apply M4;refine N9 (K6 rfl rfl rfl hlx (by omega) (by omega)) rfl ?_)|(apply J5;first|refine s_call (Q5 rfl rfl) rfl ?_ |refine s_call (Q3 rfl rfl) rfl ?_))|(apply D7)|(apply G9)|(apply F6)|((fail_if_success (refine K3 (id:=16) ?_));apply A7)|(refine G5 rfl ?_;apply E9<;>intro hq<;>(try (exfalso;omega)))|(apply D5))
          all_goals (skip)
          refine R9 (α:=Nat) (fun k=>[(5,.slice a j c),(36,.slice (some ⟨bL,0,none⟩) L.length L.length),(37,.int .i64 L.length),(38,.int .i64 j),(7,.string w),(8,.int .i64 (numA ((nums w).take k))),(46,.int .i64 w.size),(47,.int .i64 k)]) (fun _=> .own 3 1 a j c (ints ((L.take j).map numW)):: .blk bL 9 (strs L)::H)
            (fun k=>k≤w.size) (fun k=>w.size-k) 0 (Nat.zero_le _) (by repeat (first|exact Le.nil _|refine Le.cons (by (rfl)) ?_)) I8 ?_
          intro k hk
          by_cases hkl:k<w.size
          · obtain⟨d,hd⟩:=AA3 (X:=nums w) (k:=k) (by omega)
            have hv:(nums w).getD (k:Int).toNat 0=d:=by rw[List.getD_eq_getElem?_getD,show (k:Int).toNat=k from rfl,hd];rfl
            obtain⟨h1,h2,h3⟩:=Hstep.out k d hd
            obtain⟨h4,h5⟩:=Hpre.out k
            generalize numA ((nums w).take k)=n at *
            clear hd hend
            repeat' (first|(apply F3;first|(apply C8;refine A8 ?_)|(apply C9;refine D8 rfl rfl ?_)|(apply E5;refine F5 rfl rfl rfl ?_;first|(apply M0;refine L9 ⟨by omega,by omega⟩ ?_)|(apply y9;refine AA2 ⟨by omega,by omega⟩ ?_)|(apply BY3;refine AQ7 ⟨by omega,by omega⟩ ?_)|refine F7 rfl ?_)|(apply D6;refine D9 rfl rfl ?_)|(apply p8;refine x9 (AA5 (k:= .i64) rfl rfl ⟨by omega,by omega⟩) rfl ?_)|(apply U8;refine W9 (Z5 hv rfl rfl rfl (by omega) (by omega)) rfl ?_)|(apply J5;first|(refine s_call (AQ3 rfl rfl rfl) rfl ?_)|(refine s_call (CD5 rfl rfl rfl) rfl ?_)))|(apply D7)|(apply G9)|(apply F6)|(apply A7)|(refine G5 rfl ?_;apply E9<;>intro hq<;>(try (exfalso;omega)))|(apply D5)|(apply J2))
            all_goals (skip)
            refine J6 (k+1) ⟨by omega,by omega⟩ ?_ I8
            rw[h1]
            exact(by repeat (first|exact Le.nil _|refine Le.cons (by (rfl)) ?_))
          · obtain rfl:w.size=k:=by omega
            rw[hend]
            repeat' (first|(apply F3;first|(apply C8;refine A8 ?_)|(apply C9;refine D8 rfl rfl ?_)|(apply E5;refine F5 rfl rfl rfl ?_;first|(apply M0;refine L9 ⟨by omega,by omega⟩ ?_)|refine F7 rfl ?_)|(apply D6;refine D9 rfl rfl ?_)|(apply J5;refine R6 rfl rfl rfl rfl (by (rfl)) (by (rfl)) (by omega) rfl rfl (fun _ _=>?_))|(apply V8;refine M7 rfl rfl rfl rfl rfl rfl rfl rfl rfl rfl (fun _=>?_)))|(apply D7)|(apply N8)|(apply A7)|(refine G5 rfl ?_;apply E9<;>intro hq<;>(try (exfalso;omega)))|(apply D5)|(apply J7)|(apply J2)|(apply J8))
            all_goals (skip)
            rename_i bx ax cx
            refine J6 (j+1,ax,cx) ⟨⟨by dsimp only;omega,by dsimp only;omega⟩,by dsimp only;omega⟩ ?_ ?_
            · dsimp only;rw[Hnx.out,List.length_append,hol];exact(by repeat (first|exact Le.nil _|refine Le.cons (by (rfl)) ?_))
            · dsimp only;rw[Hnx.out,List.length_append,hol,show ints ((L.take j).map numW++[numW w])=ints ((L.take j).map numW)++[.int .i64 (numW w)] from by simp [ints]];exact I8
      · obtain rfl:L.length=j:=by omega
        rw[show L.take 32=L from List.take_of_length_le hj32]
        rw[List.take_length]
        repeat' (first|(apply F3;first|(apply C8;refine A8 ?_)|(apply C9;refine D8 rfl rfl ?_)|(apply E5;refine F5 rfl rfl rfl ?_;refine F7 rfl ?_)|(apply D6;refine D9 rfl rfl ?_))|(apply D7)|(apply H7)|(apply N8)|(apply A7)|(refine G5 rfl ?_;apply E9<;>intro hq<;>(try (exfalso;omega)))|(apply D5)|(apply J7)|(apply J8))
        all_goals (skip)
        exact M9 (.own 3 1 a (L.map numW).length c (ints (L.map numW))::H) (by (exact .inr rfl)) rfl I8 ⟨a,c,rfl,rfl⟩
  · rw[if_neg hok]
    have ht0:¬strOfNums t=⟨#[]⟩:=fun h=>hok (hall.1 (hts.1 h))
    refine Y3 Tryz.func93 rfl rfl rfl rfl rfl ?_
    repeat' (first|(apply F3;first|(apply C8;refine A8 ?_)|(apply C9;refine D8 rfl rfl ?_)|(apply E5;refine F5 rfl rfl rfl ?_;refine AI0 ?_)|(apply D6;refine D9 rfl rfl ?_)|(apply H6;refine F9 rfl rfl rfl (cT _) rfl rfl ?_)|(apply J5;refine s_call (Q3 rfl rfl) rfl ?_))|(apply D7)|(apply G9)|(apply H7)|(apply F6)|(apply A7)|(refine G5 rfl ?_;apply AF0<;>intro hq)|(apply D5)|(apply J4))
    all_goals (first|(exact absurd (of_decide_eq_true (by assumption)) ht0)|skip)
    exact M9 (.own 3 1 none 0 0 []::H) (by (exact .inr rfl)) rfl (fun _ hw=>hw.nilrow _ _) ⟨none,0,rfl,rfl⟩
theorem Aa4 (G:Ctx) (H:List Ent) (L:List Int) (a:Option Addr) (n c:Nat) [h1:RdC G H a (ints L)] (hn:n=L.length) (i none:Int):SV Tryz.prog G 167 [.slice a n c,.int .i64 i,.int .i64 none] H (.int .i64 (if 0≤i∧i<n∧L.getD i.toNat 0≠ -1 then L.getD i.toNat 0 else none)):=by
  have hlx:(ints L).length=n * 1:=by rw[hn];simp [ints]
  by_cases hi:0≤i∧i<n
  · obtain⟨x,hx⟩:=AA3 (X:=L) (k:=i.toNat) (by omega)
    have hxi:(ints L)[i.toNat * 1]? =some (.int .i64 x):=by simp [ints,hx]
    have hd:L.getD i.toNat 0=x:=by rw[List.getD_eq_getElem?_getD,hx];rfl
    rw[hd]
    clear hx
    refine AC6 Tryz.func167 rfl rfl rfl rfl rfl ?_
    repeat' (first|(apply F3;first|(apply C8;refine A8 ?_)|(apply C9;refine D8 rfl rfl ?_)|(apply E5;refine F5 rfl rfl rfl ?_;refine F7 rfl ?_)|(apply F4;refine F8 rfl rfl ?_;refine X5 hxi ?_)|(apply D6;refine D9 rfl rfl ?_)|(apply I6;refine I9 rfl rfl ?_;apply O1;refine O3 rfl ?_)|(apply M4;refine N9 (K6 rfl rfl rfl hlx (by omega) (by omega)) rfl ?_)|(apply J5;refine s_call (Q5 rfl rfl) rfl ?_)|(apply I1;refine J9 rfl rfl rfl rfl ?_;first|(apply I7)|(apply O8<;>intro hq<;>(try (exfalso;omega)))))|(apply D7)|(apply G9)|(apply H7)|(apply A7)|(refine G5 rfl ?_;apply E9<;>intro hq<;>(try (exfalso;omega)))|(apply D5)|(apply J4))
    all_goals (first|(rw[if_pos (by omega)];refine M3 (by (exact .inr rfl)) rfl N7 ?_;rfl)|(rw[if_neg (by omega)];refine M3 (by (exact .inr rfl)) rfl N7 ?_;rfl))
  · rw[if_neg (by omega)]
    refine AC6 Tryz.func167 rfl rfl rfl rfl rfl ?_
    repeat' (first|(apply F3;first|(apply C8;refine A8 ?_)|(apply C9;refine D8 rfl rfl ?_)|(apply E5;refine F5 rfl rfl rfl ?_;refine F7 rfl ?_)|(apply D6;refine D9 rfl rfl ?_)|(apply I6;refine I9 rfl rfl ?_;first|(apply Q9;refine Q8 rfl ?_)|(apply O1;refine O3 rfl ?_))|(apply J5;refine s_call (Q5 rfl rfl) rfl ?_)|(apply I1;refine J9 rfl rfl rfl rfl ?_;first|(apply I7)|(apply X9)|(apply O8<;>intro hq<;>(try (exfalso;omega)))))|(apply D7)|(apply H7)|(apply A7)|(refine G5 rfl ?_;apply I7)|(apply D5)|(apply J4))
    all_goals (refine M3 (by (exact .inr rfl)) rfl N7 ?_;rfl)
end
section
open Go.RowKit Go.Fw
set_option maxHeartbeats 1000000 in
set_option maxRecDepth 100000 in
theorem Ag4 (s:ByteArray) (c:Int) (w:World):
    Calls Tryz.prog 174 #[.string s,.int .u8 c] w fun e w'=>e= .returned (.int .i64 (Lib.indexByte s.data.toList c.toNat.toUInt8))∧w=w':=by
  go_enter Tryz.func174,Tryz.ntmps174
  go_wp2
  rw[run_callFunc_extern Tryz.func219 (by kernel_rfl) (by kernel_rfl) (by kernel_rfl) (e:=Extern.BytealgIndexByte.indexByte) (by kernel_rfl),Lib.run_indexByteString]
  simp only[Result.andThen]
  rw[Oper.upon_value]
  go_wp2
  go_ret
  exact⟨rfl,rfl⟩
set_option maxRecDepth 100000 in
theorem Av7 (s:ByteArray) (c:Int) (w:World):
    Calls Tryz.prog 117 #[.string s,.int .u8 c] w fun e w'=>e= .returned (.int .i64 (Lib.indexByte s.data.toList c.toNat.toUInt8))∧w=w':=by
  go_enter Tryz.func117,Tryz.ntmps117
  go_wp2_with (go_at_call 174;refine(Ag4 _ _ _).mono ?_;rintro e w' ⟨rfl,rfl⟩)
  go_ret
  exact⟨rfl,rfl⟩
end
section
set_option maxHeartbeats 1000000
abbrev sP (n:Int):Ps:=(n,0,e0,e0,e0)
/-- What control does: was it one; the parser behind it; the acts. -/
def ctlU (p:Ps) (x:Int):Bool×Ps×List Ac:=
  if x=27 then (true,sP 1,if p.1=0 then [] else [dA])
  else if x=24∨x=26 then (true,sP 0,if p.1=0 then [] else [dA])
  else if x<32 then (true,p,[(2,x,0,e0,nA,e0)])
  else (decide (127≤x∧x≤159),p,[])
def escU (p:Ps) (x:Int):Ps×List Ac:=
  if x<48 then ((2,p.2.1,moreU p.2.2.1 x,p.2.2.2.1,p.2.2.2.2),[])
  else if p.1=2 then (sP 0,[finA p.2.2.1 (3,x,0,p.2.2.1,nA,e0)])
  else if x=91 then ((3,p.2),[])
  else if x=93 then ((7,p.2),[])
  else if x=80∨x=88∨x=94∨x=95 then ((9,p.2),[])
  else (sP 0,[finA p.2.2.1 (3,x,0,e0,nA,e0)])
/-- What csi does, with the parsed row at a (n cells, room for cp). -/
def csiU (p:Ps) (x:Int) (r:Rx Int):Ps×List Ac:=
  if p.1=6 then (if 64≤x then (sP 0,[dA]) else (p,[]))
  else if x<48 then ((5,p.2.1,moreU p.2.2.1 x,p.2.2.2.1,p.2.2.2.2),[])
  else if 64≤x then (sP 0,[finA p.2.2.1 (4,x,p.2.1,p.2.2.1,r,e0)])
  else if p.1=5∨x=58 then (sP 6,[])
  else if x<60 then ((4,p.2.1,p.2.2.1,argU p.2.2.2.1 x,p.2.2.2.2),[])
  else if p.1=3 then ((4,x,p.2.2),[])
  else (sP 6,[])
theorem slD {G:Ctx} {H:List Ent}:∀y∈[dA],Sl ints G H y.2.2.2.2.1:=fun y h=>by
  rw[List.mem_singleton] at h
  subst h
  exact Sl.nil rfl
attribute [local irreducible] SW SL SQ AtQ SV SC BB LD PK Yields SO SOT SOA SY SP SPT SPA
theorem Ah1 (G:Ctx) (K:List Ent) (b:Nat) (s m:Int) (i g t:ByteArray) (X:List Ac) (a:Option Addr) (c:Nat) (x:Int) (hX:X.length≤10000000):SC Tryz.prog G 100 [.pointer (some ⟨b,0,none⟩),.int .i64 x] (mcH b (s,m,i,g,t) X a c K) (fun v H'=>∃a' c',v= .bool (ctlU (s,m,i,g,t) x).1∧H'=mcH b (ctlU (s,m,i,g,t) x).2.1 (X++(ctlU (s,m,i,g,t) x).2.2) a' c' K):=by
  have c1:=AH5 G K b s m i g t X a c 6 0 0 e0 nA e0 hX
  have c2:=AH5 G K b s m i g t X a c 2 x 0 e0 nA e0 hX
  have c3:=fun X a c n=>AQ6 G K b s m i g t X a c n
  have c4:=fun H=>AN3 G H x 127 159
  unfold mcH at *
  dsimp only at *
  refine J3 Tryz.func100 rfl rfl rfl rfl rfl ?_
  repeat' (first|(apply F3;first|(apply C8;refine A8 ?_)|(apply C9;refine D8 rfl rfl ?_)|(apply E5;refine F5 rfl rfl rfl ?_;refine F7 rfl ?_)|(apply F4;refine F8 rfl rfl ?_;refine G6 rfl ?_)|(apply D6;refine D9 rfl rfl ?_)|(apply I6;refine I9 rfl rfl ?_;first|(apply Q9;refine Q8 rfl ?_)|(apply O1;refine O3 rfl ?_))|(apply G7;refine G8 (E8 rfl rfl) rfl ?_)|(apply P5;refine R7 (O6 rfl rfl rfl) rfl ?_)|(apply K8;refine M8 (H8 rfl rfl) rfl ?_)|(apply H6;first|(refine c_call rfl rfl rfl c1 rfl rfl ?_;rintro _ _ ⟨a1,k1,rfl,rfl⟩)|(refine c_call rfl rfl rfl c2 rfl rfl ?_;rintro _ _ ⟨a1,k1,rfl,rfl⟩)|(refine c_call rfl rfl rfl (c3 _ _ _ _) rfl rfl ?_;rintro _ _ ⟨rfl,rfl⟩)|refine F9 rfl rfl rfl (c4 _) rfl rfl ?_)|(apply I1;refine J9 rfl rfl rfl rfl ?_;first|(apply I7)|(apply X9)|(apply O8<;>intro hq<;>(try (exfalso;omega)))))|(apply D7)|(apply G9)|(apply H7)|(apply F6)|(apply A7)|(refine G5 rfl ?_;first|(apply I7)|(apply E9<;>intro hq<;>(try (exfalso;omega)))|(apply X6<;>intro hq<;>(try (exfalso;omega))))|(apply D5)|(apply J4)|(apply J2)|(apply U1))
  all_goals
    refine M9 _ (by (exact .inr rfl)) rfl (fun _ hw=>hw) ?_
    unfold ctlU
    dsimp only
    (repeat (first|rw[if_pos (by (first|assumption|omega))]|rw[if_neg (by (first|assumption|omega))]))
    try dsimp only
    (first|exact⟨_,_,rfl,rfl⟩|(rw[List.append_nil];exact⟨_,_,rfl,rfl⟩))
theorem CA1 (G:Ctx) (H:List Ent) (x:Int) (hx:0≤x∧x≤255):SV Tryz.prog G 117 [.string ⟨#[80,88,94,95]⟩,.int .u8 x] H (.int .i64 (if x=80 then 0 else if x=88 then 1 else if x=94 then 2 else if x=95 then 3 else-1)):=by
  have h:=fun w=>Av7 ⟨#[80,88,94,95]⟩ x w
  have e:∀n:Nat,n<256→(Lib.indexByte (⟨#[80,88,94,95]⟩:ByteArray).data.toList (n:Int).toNat.toUInt8)=(if (n:Int)=80 then 0 else if (n:Int)=88 then 1 else if (n:Int)=94 then 2 else if (n:Int)=95 then 3 else-1):=by decide+kernel
  obtain⟨n,rfl⟩:=Int.eq_ofNat_of_zero_le hx.1
  have e:=e n (by omega)
  refine AA4 (j6 Tryz.func117 rfl rfl) fun w hw=>(h w).mono ?_
  rintro _ _ ⟨rfl,rfl⟩
  exact⟨congrArg (fun z=>Ending.returned (.int .i64 z)) e,Below.refl _ _⟩
theorem BE1 (G:Ctx) (K:List Ent) (b:Nat) (s m:Int) (i g t:ByteArray) (X:List Ac) (a:Option Addr) (c:Nat) (x:Int) (hx:32≤x∧x≤126) (hX:X.length≤10000000):SC Tryz.prog G 101 [.pointer (some ⟨b,0,none⟩),.int .i64 x] (mcH b (s,m,i,g,t) X a c K) (fun v H'=>∃a' c',v=resV []∧H'=mcH b (escU (s,m,i,g,t) x).1 (X++(escU (s,m,i,g,t) x).2) a' c' K):=by
  have c1:=Ad3 G K b s m i g t X a c 3 x 0 i nA e0 hX
  have c2:=Ad3 G K b s m i g t X a c 3 x 0 e0 nA e0 hX
  have c3:=A48 G K b s m i g t X a c x (by omega)
  have c4:=fun H=>CA1 G H x (by omega)
  unfold mcH at *
  dsimp only at *
  refine J3 Tryz.func101 rfl rfl rfl rfl rfl ?_
  repeat' (first|(apply F3;first|(apply C8;refine A8 ?_)|(apply C9;refine D8 rfl rfl ?_)|(apply E5;refine F5 rfl rfl rfl ?_;refine F7 rfl ?_)|(apply F4;refine F8 rfl rfl ?_;refine G6 rfl ?_)|(apply D6;refine D9 rfl rfl ?_)|(apply G7;refine G8 (E8 rfl rfl) rfl ?_)|(apply P5;refine R7 (O6 rfl rfl rfl) rfl ?_)|(apply p8;refine x9 (AA5 (k:= .u8) rfl rfl ⟨by omega,by omega⟩) rfl ?_)|(apply K8;refine M8 (H8 rfl rfl) rfl ?_)|(apply H6;first|(refine c_call rfl rfl rfl c1 rfl rfl ?_;rintro _ _ ⟨a1,k1,rfl,rfl⟩)|(refine c_call rfl rfl rfl c2 rfl rfl ?_;rintro _ _ ⟨a1,k1,rfl,rfl⟩)|(refine c_call rfl rfl rfl c3 rfl rfl ?_;rintro _ _ ⟨rfl,rfl⟩)|refine F9 rfl rfl rfl (c4 _) rfl rfl ?_)|(apply H9;refine U3 rfl rfl rfl rfl rfl rfl rfl ?_))|(apply D7)|(apply F6)|(apply A7)|(refine G5 rfl ?_;apply E9<;>intro hq<;>(try (exfalso;omega)))|(apply D5)|(apply J2))
  all_goals
    refine M9 _ (by (exact .inl rfl)) rfl (fun _ hw=>hw) ?_
    unfold escU
    dsimp only
    (repeat (first|rw[if_pos (by (first|assumption|omega))]|rw[if_neg (by (first|assumption|omega))]))
    try dsimp only
    (first|exact⟨_,_,rfl,rfl⟩|(rw[List.append_nil];exact⟨_,_,rfl,rfl⟩))
theorem Bw5 (G:Ctx) (K:List Ent) (M:Int) (hM:∀H w,Holds G H w→w.cell? ⟨2,0,none⟩=some (.int .i64 M)) (b:Nat) (s m:Int) (i g t:ByteArray) (X:List Ac) (a:Option Addr) (c:Nat) (x:Int) (hx:32≤x∧x≤126) (hX:X.length≤10000000) (hg:g.size≤200):SC Tryz.prog G 102 [.pointer (some ⟨b,0,none⟩),.int .i64 x] (mcH b (s,m,i,g,t) X a c K) (fun v H'=>∃a2 c2 F a' c',v=resV []∧H'=mcH b (csiU (s,m,i,g,t) x (a2,c2,(readA g).1)).1 (X++(csiU (s,m,i,g,t) x (a2,c2,(readA g).1)).2) a' c' (F++K)∧∀y∈(csiU (s,m,i,g,t) x (a2,c2,(readA g).1)).2,Sl ints G F y.2.2.2.2.1):=by
  have c1:=fun K a2 c2=>Ad3 G K b s m i g t X a c 4 x m i (a2,c2,(readA g).1) e0 hX
  have c2:=fun K=>AT2 G K b s m i g t X a c 0 hX
  have c3:=A48 G K b s m i g t X a c x (by omega)
  have c4:=BI4 G K b s m i g t X a c
  have c5:=fun H=>Ag7 G H M hM g (by omega)
  have hcat:∀(g:ByteArray),g.size<100→g.size+(strOfNums [x]).size≤9223372036854775807:=fun i h=>by rw[strOfNums_size];simp;omega
  unfold mcH at *
  dsimp only at *
  refine J3 Tryz.func102 rfl rfl rfl rfl rfl ?_
  repeat' (first|(apply F3;first|(apply C8;refine A8 ?_)|(apply C9;refine D8 rfl rfl ?_)|(apply E5;refine F5 rfl rfl rfl ?_;first|(refine AW6 (hcat _ (by omega)) ?_)|(refine F7 rfl ?_))|(apply F4;refine F8 rfl rfl ?_;refine G6 rfl ?_)|(apply D6;refine D9 rfl rfl ?_)|(apply I6;refine I9 rfl rfl ?_;first|(apply Q9;refine Q8 rfl ?_)|(apply O1;refine O3 rfl ?_))|(apply G7;refine G8 (E8 rfl rfl) rfl ?_)|(apply Q6;refine U2 (K7 rfl rfl rfl) rfl ?_)|(apply p8;first|(refine x9 (AA5 (k:= .i32) rfl rfl ⟨by omega,by omega⟩) rfl ?_)|(refine x9 (Ax7 rfl rfl (by omega) (by omega)) rfl ?_))|(apply K8;refine M8 (H8 rfl rfl) rfl ?_)|(apply H6;first|(refine c_call rfl rfl rfl (c2 _) rfl rfl ?_;rintro _ _ ⟨a1,k1,rfl,rfl⟩)|(refine c_call rfl rfl rfl c3 rfl rfl ?_;rintro _ _ ⟨rfl,rfl⟩)|(refine c_call rfl rfl rfl c4 rfl rfl ?_;rintro _ _ ⟨rfl,rfl⟩)|(refine c_call rfl rfl rfl (c5 _) rfl rfl ?_;rintro _ _ ⟨a2,k2,rfl,rfl⟩))|(apply J5;refine s_call (Q3 rfl rfl) rfl ?_)|(apply H9;refine U3 rfl rfl rfl rfl rfl rfl rfl ?_)|(apply I1;refine J9 rfl rfl rfl rfl ?_;first|(apply I7)|(apply X9)|(apply O8<;>intro hq<;>(try (exfalso;omega)))))|(apply D7)|(apply G9)|(apply F6)|((fail_if_success (refine K3 (id:=9) ?_));apply A7)|(refine G5 rfl ?_;first|(apply I7)|(apply E9<;>intro hq<;>(try (exfalso;omega))))|(apply D5)|(apply J2))
  all_goals first
    | (refine M9 _ (by first|exact .inl rfl|exact .inr rfl) rfl (fun _ hw=>hw) ⟨none,0,[],?_⟩
       unfold csiU argU
       dsimp only
       (repeat (first|rw[if_pos (by (first|assumption|omega))]|rw[if_neg (by (first|assumption|omega))]))
       first|exact⟨_,_,rfl,rfl,slD⟩|(rw[List.append_nil];exact⟨_,_,rfl,rfl,fun _ h=>nomatch h⟩))
    | skip
  refine AF1 (.blk b 152 [.int .i64 s,.int .i64 m,.string i,.string g,.string t,.slice a X.length c]:: .own 160 6 a X.length c (acs X):: .own 3 1 a2 (readA g).1.length k2 (ints (readA g).1)::K) I8 ?_
  refine AX9 14 (.blk b 152 [.int .i64 s,.int .i64 m,.string i,.string g,.string t,.slice a X.length c]:: .own 160 6 a X.length c (acs X):: .own 3 1 a2 (readA g).1.length k2 (ints (readA g).1)::K) K I8 rfl ?_
  repeat' (first|(apply F3;first|(apply C8;refine A8 ?_)|(apply H6;refine c_call rfl rfl rfl (c1 _ a2 k2) rfl rfl ?_;rintro _ _ ⟨a1,k1,rfl,rfl⟩))|(apply U4;refine R5 (k:=0) I8 ?_)|(apply V6;first|(refine O9 rfl ?_)|(refine R4 (by decide+kernel) ?_))|(apply An8;first|(refine AT1 rfl rfl rfl rfl (by kernel_rfl) (by decide+kernel) (by decide+kernel) (by decide+kernel) ?_;first|(apply U5;refine I4 (V4 rfl rfl) ?_)|(apply U9;refine U6 rfl ?_;refine G6 rfl ?_)|(apply Q0;refine I4 (E8 rfl rfl) ?_)|(apply AH3;refine I4 (O6 rfl rfl rfl) ?_)|(apply Y7;refine I4 (H8 rfl rfl) ?_))|(refine AS9 rfl ?_)|(refine AX2 (by kernel_rfl) ?_))|(apply Ak3;first|(refine AV6 rfl)|(refine Ab2 (by decide+kernel) ?_)|(refine Ac8 rfl rfl ?_ ?_))|(apply J2))
  refine M9 _ (.inl rfl) rfl (fun _ hw=>hw) ⟨a2,k2,[.own 3 1 a2 (readA g).1.length k2 (ints (readA g).1)],?_⟩
  unfold csiU
  dsimp only
  (repeat (first|rw[if_pos (by (assumption))]|rw[if_neg (by (assumption))]))
  refine⟨_,_,rfl,rfl,fun y h=>?_⟩
  rw[List.mem_singleton] at h
  subst h
  unfold finA
  split
  · exact Sl.nil rfl
  · exact Sl.own List.mem_cons_self rfl rfl
end
section
open Go.RowKit Go.Fw
def runeL (c:Int):List Int:=
  if c<128 then [c] else if c<2048 then [192+c / 64,128+c % 64] else if c<65536 then [224+c / 4096,128+c / 64 % 64,128+c % 64]
  else [240+c / 262144,128+c / 4096 % 64,128+c / 64 % 64,128+c % 64]
theorem BH5 (c:Int) (h0:0≤c) (h1:c≤1114111):∀x∈runeL c,0≤x∧x<256:=by
  intro x hx
  unfold runeL at hx
  split at hx
  · simp at hx;omega
  · split at hx
    · simp at hx;omega
    · split at hx<;>(simp at hx;omega)
theorem AT8 (c:Int):(runeL c).length≤4:=by
  unfold runeL;split<;>(try split)<;>(try split)<;>simp
end
section
open Go.RowKit Go.Fw
theorem Af3 {k:IntKind} (l:List Int):∀u∈l.map (Value.int k),u.oneCell'=true:=by
  intro u hu
  obtain⟨x,_,rfl⟩:=List.mem_map.1 hu
  rfl
set_option maxRecDepth 100000 in
set_option maxHeartbeats 1000000 in
theorem A92 (c:Int) (w:World) (v:Value) (n B:Nat) (xs:List Int) (hn:n≤100000000) (hB:B≤w.heap.size) (hown:w.ownsRow B 5 1 v n (octs xs)) (h0:128≤c) (h1:c<2048):
    Calls Tryz.prog 69 #[v,.int .i32 c] w fun e w'=>∃v',e= .returned v'∧w'.ownsRow B 5 1 v' (n+(runeL c).length) (octs (xs++runeL c))∧Below B w w':=by
  have hl:runeL c=[192+c / 64,128+c % 64]:=by unfold runeL;rw[if_neg (by omega),if_pos (by omega)]
  rw[hl]
  clear hl
  go_enter Tryz.func69,Tryz.ntmps69
  go_wp2_with (at_builtin;(refine AT9 rfl _ _ 106 rfl B 5 (.int .u8 0) 1 1 Tryz.underlying106 u8i rfl (by decide) (by decide) _ _ _ rfl hown w.heap.size 2 [.int .u8 (192+c / 64),.int .u8 (128+c % 64)] rfl rfl rfl rfl (Af3 [192+c / 64,128+c % 64]) (by omega) hB ?_);intro v3 w3 hown3 hb3)
  go_wp2_with fail
  go_ret
  exact⟨v3,rfl,by simpa [octs] using hown3,hb3⟩
set_option maxRecDepth 100000 in
set_option maxHeartbeats 1000000 in
theorem BA9 (c:Int) (w:World) (v:Value) (n B:Nat) (xs:List Int) (hn:n≤100000000) (hB:B≤w.heap.size) (hown:w.ownsRow B 5 1 v n (octs xs)) (h0:2048≤c) (h1:c<65536) (hs:c<55296∨57343<c):
    Calls Tryz.prog 69 #[v,.int .i32 c] w fun e w'=>∃v',e= .returned v'∧w'.ownsRow B 5 1 v' (n+(runeL c).length) (octs (xs++runeL c))∧Below B w w':=by
  have hl:runeL c=[224+c / 4096,128+c / 64 % 64,128+c % 64]:=by unfold runeL;rw[if_neg (by omega),if_neg (by omega),if_pos (by omega)]
  rw[hl]
  clear hl
  rcases hs with hs|hs
  all_goals
    go_enter Tryz.func69,Tryz.ntmps69
    go_wp2_with (at_builtin;(refine AT9 rfl _ _ 106 rfl B 5 (.int .u8 0) 1 1 Tryz.underlying106 u8i rfl (by decide) (by decide) _ _ _ rfl hown w.heap.size 3 [.int .u8 (224+c / 4096),.int .u8 (128+c / 64 % 64),.int .u8 (128+c % 64)] rfl rfl rfl rfl (Af3 [224+c / 4096,128+c / 64 % 64,128+c % 64]) (by omega) hB ?_);intro v3 w3 hown3 hb3)
    go_wp2_with fail
    go_ret
    exact⟨v3,rfl,by simpa [octs] using hown3,hb3⟩
set_option maxRecDepth 100000 in
set_option maxHeartbeats 1000000 in
theorem A95 (c:Int) (w:World) (v:Value) (n B:Nat) (xs:List Int) (hn:n≤100000000) (hB:B≤w.heap.size) (hown:w.ownsRow B 5 1 v n (octs xs)) (h0:65536≤c) (h1:c≤1114111):
    Calls Tryz.prog 69 #[v,.int .i32 c] w fun e w'=>∃v',e= .returned v'∧w'.ownsRow B 5 1 v' (n+(runeL c).length) (octs (xs++runeL c))∧Below B w w':=by
  have hl:runeL c=[240+c / 262144,128+c / 4096 % 64,128+c / 64 % 64,128+c % 64]:=by unfold runeL;rw[if_neg (by omega),if_neg (by omega),if_neg (by omega)]
  rw[hl]
  clear hl
  go_enter Tryz.func69,Tryz.ntmps69
  go_wp2_with (at_builtin;(refine AT9 rfl _ _ 106 rfl B 5 (.int .u8 0) 1 1 Tryz.underlying106 u8i rfl (by decide) (by decide) _ _ _ rfl hown w.heap.size 4 [.int .u8 (240+c / 262144),.int .u8 (128+c / 4096 % 64),.int .u8 (128+c / 64 % 64),.int .u8 (128+c % 64)] rfl rfl rfl rfl (Af3 [240+c / 262144,128+c / 4096 % 64,128+c / 64 % 64,128+c % 64]) (by omega) hB ?_);intro v3 w3 hown3 hb3)
  go_wp2_with fail
  go_ret
  exact⟨v3,rfl,by simpa [octs] using hown3,hb3⟩
set_option maxRecDepth 100000 in
set_option maxHeartbeats 1000000 in
theorem Ao8 (c:Int) (w:World) (v:Value) (n B:Nat) (xs:List Int) (hn:n≤100000000) (hB:B≤w.heap.size) (hown:w.ownsRow B 5 1 v n (octs xs)) (h0:0≤c) (h1:c≤1114111) (hs:c<55296∨57343<c):
    Calls Tryz.prog 41 #[v,.int .i32 c] w fun e w'=>∃v',e= .returned v'∧w'.ownsRow B 5 1 v' (n+(runeL c).length) (octs (xs++runeL c))∧Below B w w':=by
  by_cases h2:c<128
  · have hl:runeL c=[c]:=by unfold runeL;rw[if_pos h2]
    rw[hl]
    clear hl
    go_enter Tryz.func41,Tryz.ntmps41
    go_wp2_with (at_builtin;(refine AT9 rfl _ _ 106 rfl B 5 (.int .u8 0) 1 1 Tryz.underlying106 u8i rfl (by decide) (by decide) _ _ _ rfl hown w.heap.size 1 [.int .u8 (c)] rfl rfl rfl rfl (Af3 [c]) (by omega) hB ?_);intro v3 w3 hown3 hb3)
    go_wp2_with fail
    go_ret
    exact⟨v3,rfl,by simpa [octs] using hown3,hb3⟩
  · have hc:Calls Tryz.prog 69 #[v,.int .i32 c] w fun e w'=>∃v',e= .returned v'∧w'.ownsRow B 5 1 v' (n+(runeL c).length) (octs (xs++runeL c))∧Below B w w':=by
      by_cases h3:c<2048
      · exact A92 c w v n B xs hn hB hown (by omega) h3
      · by_cases h4:c<65536
        · exact BA9 c w v n B xs hn hB hown (by omega) h4 hs
        · exact A95 c w v n B xs hn hB hown (by omega) h1
    clear hown hs
    go_enter Tryz.func41,Tryz.ntmps41
    go_wp2_with fail
    refine hc.mono ?_
    rintro e w1 ⟨v',rfl,hown1,hb1⟩
    go_wp2_with fail
    go_ret
    exact⟨v',rfl,hown1,hb1⟩
end
section
open Go.RowKit Go.Fw
def fixR (c:Int):Int:=if c<0∨1114111<c∨(55296≤c∧c≤57343) then 65533 else c
def encL (xs:List Int):List Int:=xs.flatMap (fun c=>runeL (fixR c))
theorem BQ5 (xs:List Int) (k:Nat) (h:k<xs.length):encL (xs.take (k+1))=encL (xs.take k)++runeL (fixR (xs.getD k 0)):=by
  have e:xs.getD k 0=xs[k]:=by rw[List.getD_eq_getElem?_getD,List.getElem?_eq_getElem h];rfl
  unfold encL
  rw[List.take_succ_eq_append_getElem h,List.flatMap_append,e]
  simp
theorem A00 (xs:List Int):(encL xs).length≤4 * xs.length:=by
  unfold encL
  induction xs with
  | nil=>simp
  | cons x xs ih=>
    have:=AT8 (fixR x)
    rw[List.flatMap_cons,List.length_append,List.length_cons]
    omega
set_option maxRecDepth 100000 in
set_option maxHeartbeats 2000000 in
theorem Aj9 (xs:List Int) (a:Option Addr) (n c:Nat) (w:World) (hn:n=xs.length) (hm:xs.length≤20000000) (h1:At w a (ints xs)):
    Calls Tryz.prog 17 #[.slice a n c] w fun e w'=>e= .returned (.string (strOfNums (encL xs)))∧Below w.heap.size w w':=by
  have Hn:=Lib.hid hn
  rw[←hn] at hm
  clear hn
  go_enter Tryz.func17,Tryz.ntmps17
  go_wp2_with fail
  go_loopw [3,8] (fun v i wr=>∃k:Nat,k≤n∧i= .int .i64 k∧wr.ownsRow w.heap.size 5 1 v (encL (xs.take k)).length (octs (encL (xs.take k)))∧Below w.heap.size w wr) (fun _ i _=>n-(intOf i).toNat)
  case atStart=>exact⟨0,Nat.zero_le _,rfl,World.ownsRow_nil _ _ _ _,Below.refl _ _⟩
  case round=>
    obtain⟨k,hk,rfl,hown,hbl⟩:=hrel
    by_cases hlt:k<n
    · obtain⟨b,o,ha,hb,hc⟩:=h1.int (i:=k) (by rw[←Hn.out];exact hlt)
      rw[ha]
      have hx:=(hbl.cell (p:=⟨b,o+k,none⟩) hb).trans (hc k (by rw[←Hn.out];exact hlt))
      have hlen:(encL (xs.take k)).length≤100000000:=by
        have:=A00 (xs.take k)
        rw[List.length_take] at this
        omega
      have Hstep:=Lib.hid (BQ5 xs k (by rw[←Hn.out];exact hlt))
      clear hc ha
      generalize xs.getD k 0=x at *
      generalize encL (xs.take k)=Z at *
      have hcase:(x<0∧Hid (fixR x=65533))∨(¬x<0∧1114111<x∧Hid (fixR x=65533))∨(¬x<0∧¬1114111<x∧55296≤x∧x≤57343∧Hid (fixR x=65533))∨(¬x<0∧¬1114111<x∧¬55296≤x∧Hid (fixR x=x))∨(¬x<0∧¬1114111<x∧55296≤x∧¬x≤57343∧Hid (fixR x=x)):=by
        unfold Hid fixR
        split<;>omega
      rcases hcase with ⟨p1,hf⟩|⟨p1,p2,hf⟩|⟨p1,p2,p3,p4,hf⟩|⟨p1,p2,p3,hf⟩|⟨p1,p2,p3,p4,hf⟩
      all_goals
        go_wp2_with fail
        refine(Ao8 _ _ _ _ _ Z hlen hbl.size hown (by omega) (by omega) (by omega)).mono ?_
        rintro e w1 ⟨v',rfl,hown1,hb1⟩
        have hbl1:=hbl.trans hb1
        clear hown hbl hb1
        go_wp2_with fail
        go_roundw
        case rel=>exact⟨k+1,by omega,by go_num,by rw[Hstep.out,hf.out,List.length_append];exact hown1,hbl1⟩
        case measure=>simp [intOf];omega
    · obtain rfl:k=n:=by omega
      obtain⟨a',c',hv,hat⟩:=At.own hown
      have hcv:=As3 (P:=Tryz.prog) Tryz.underlying106 Tryz.underlying5 Tryz.underlying9 c' rfl hat
      rw[List.take_of_length_le (by rw[Hn.out];exact Nat.le_refl _)] at hcv hv
      rw[hv]
      clear hown hat
      go_wp2_with fail
      go_ret
      exact⟨rfl,hbl⟩
end
end Go.Proofs.YtmmnimagbnlcmaaGreatDoor
