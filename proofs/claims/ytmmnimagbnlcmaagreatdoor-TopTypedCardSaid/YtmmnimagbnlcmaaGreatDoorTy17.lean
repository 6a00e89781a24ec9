/- Texts of this claim, merged: Ter14 Ter15 Tc1 TopP TopQ Neg3 Neg5 TopR Top1 Top3 Tc2 Tc3 Top5 Top6. -/
import Derived.Test.YtmmnimagbnlcmaaGreatDoorTy16
import Derived.Test.YtmmnimagbnlcmaaGreatDoorRows
import Derived.WalkKit
import Derived.WalkSpells
import Derived.WalkLawsBesides
import Derived.Handy
import Derived.Lib.Hide
import Derived.Laws.BitsAllLaws
import Derived.Deep.MidRow
import Derived.Deep.WholeRow
import Derived.BigQuiet
import Derived.Deep.QuietTactic
import Derived.Laws.CopyOwn
import Derived.StillTailTactics
import Derived.RegionTactic
import Derived.ChangeAlike
import Derived.Laws.AppendOwnNone
import Derived.Laws.MakeOwn
import Derived.Laws.IdiomStrings
import Derived.OrdersHeld
import Derived.Lib.SliceRun
import Derived.ChangeKeysEq
import Derived.Laws.CopyRow
import Derived.Lib.AppendStr
import Derived.ArgAppend
import Derived.Laws.RangeAny
import Derived.Maps.RangeRun
import Derived.Lib.Replace
import Derived.Lib.Join
import Derived.Lib.IndexLaws
import Derived.Lib.IndexMore
import Derived.Lib.SplitLaws
import Derived.Shelf.Strings.Builder1
import Derived.Shelf.Strings.Builder2
import Derived.Shelf.Strings.OnBuilder
import Derived.Shelf.Strings.Trim
import Derived.Shelf.Small.Utf8
import Derived.Shelf.Small.Strs
import Derived.Shelf.Strings.BuilderF
import Derived.Shelf.Strconv.Itoa0
import Derived.Shelf.Strconv.Itoa1
import Derived.Shelf.LaysM
import Derived.Shelf.Strconv.Itoa2
import Derived.Shelf.Strconv.Itoa3
import Derived.Shelf.Strings.Search1
import Derived.Shelf.Strings.Search2
import Derived.Shelf.Strings.Search3
import Derived.Shelf.Strings.Count
import Derived.Shelf.Strings.Shaped
import Derived.Shelf.Strings.LastIndex
import Derived.Shelf.Strings.Prefix
import Derived.Shelf.Strings.Split
import Derived.Shelf.Strings.Replace
import Derived.Shelf.Strings.SplitShaped
import Derived.Shelf.Strings.Runes
import Derived.Shelf.Strings.AsciiSet
import Derived.Shelf.Bits.Mul64
import Derived.Shelf.Strings.Repeat
import Derived.Shelf.Unicode.DecodeSlow
import Derived.Shelf.Unicode.DecodeAny
import Derived.Shelf.Unicode.ValidAny
import Derived.Test.YtmmnimagbnlcmaaGreatDoorProg
import Derived.Lib.Bytealg
import Derived.Lib.ItoaNum
import Derived.Lib.AppendIntMem
import Derived.Lib.ItoaLen
import Derived.Lib.Repeat
import Derived.Lib.DecodeN
set_option maxRecDepth 100000
set_option maxHeartbeats 8000000
open Go Go.RowKit Go.Fw Go.Sx
namespace Go.Proofs.YtmmnimagbnlcmaaGreatDoor
theorem B47 (a b c:ByteArray):a++b++c=a++(b++c):=by
 apply ByteArray.ext
 simp only[ByteArray.data_append,Array.append_assoc]
theorem BE0 (a:ByteArray):e0++a=a:=by
 apply ByteArray.ext
 rw[ByteArray.data_append]
 exact Array.empty_append
theorem Au8:∀(A B:List Pa) (s:Scr),sentA s (A++B)=sentA s A++sentA (runA s A) B
 | [],B,s=>(BE0 _).symm
 | y::A,B,s=>by
   show actT s y++sentA (actA s y) (A++B)=actT s y++sentA (actA s y) A++sentA (runA (actA s y) A) B
   rw[Au8 A B,B47]
theorem BR9 {A:List Pa} {k:Nat} {y:Pa} (s:Scr) (h:A[k]? =some y):runA s (A.take (k+1))=actA (runA s (A.take k)) y∧sentA s (A.take (k+1))=sentA s (A.take k)++actT (runA s (A.take k)) y:=by
 have e:A.take (k+1)=A.take k++[y]:=by rw[List.take_add_one,h];rfl
 rw[e,A25,Au8]
 exact⟨O,by show _++(actT _ y++e0)=_;rw[AG0]⟩
theorem BX9 {s:Scr} (h:OkS s) (y:Pa):(actT s y).size≤50:=by
 have hz:=h.g.size
 have hr:=h.row
 have hc:=h.col
 have ht:=h.top
 have h1:=AX1 (rowN s) (by unfold rowN;split<;>omega)
 have h2:=AX1 (s.col+1) (by omega)
 unfold actT seqT AS1 tellA
 repeat' split
 all_goals first
  | (show _≤50;decide)
  | (simp only[ByteArray.size_append];show 2+_+1+_+1≤50;omega)
theorem AT9:∀(A:List Pa) {s:Scr},OkS s→(∀y∈A,actOk y)→(sentA s A).size≤50 * A.length
 | [],_,_,_=>Nat.zero_le _
 | y::A,s,h,hy=>by
   have h1:=BX9 h y
   have h2:=AT9 A (h.act (hy y List.mem_cons_self)) fun z hz=>hy z (List.mem_cons_of_mem _ hz)
   show (actT s y++sentA (actA s y) A).size≤_
   rw[ByteArray.size_append,List.length_cons]
   omega
def tocS (s:Scr):Toc:=⟨s.w,s.h,s.row,s.col,s.late,s.top,s.bot,s.pf,s.pr,s.pb,s.modes,s.st 0,s.st 1,s.st 2,s.st 3,s.p0,s.p1,s.sh,s.sr,s.sc,s.spf,s.spr,s.spb,s.so,s.sp0,s.sp1,s.ssh,s.w,s.h,s.ti⟩
theorem B82 (s:Scr) (ga:Option Addr) (gn gc:Nat) (oa:Option Addr) (on oc:Nat) (pa:Option Addr) (pn pc:Nat):tocC (tocS s) ga gn gc oa on oc pa pn pc=scnC s ga gn gc oa on oc pa pn pc:=rfl
theorem Bk7 {s:Scr} (h:OkS s) {X:List (Rx Qd)} (hX:X.map (·.2.2)=s.past):pastB X=true:=by
 have hl:X.length=s.past.length:=by rw[←hX,List.length_map]
 unfold pastB
 rw[Bool.and_eq_true,decide_eq_true_eq,hl]
 refine⟨h.past,List.all_eq_true.2 fun x hx=>?_⟩
 have:=(h.rows x.2.2 (by rw[←hX];exact List.mem_map_of_mem hx)).e
 rw[beq_iff_eq]
 exact this
section
attribute [local irreducible] SW SL SQ AtQ SV SC BB LD PK Yields SO SOT SOA SY SP SPT SPA
theorem BE3 (G:Ctx) (H:List Ent) (s:Scr) (f:OkS s) (X:List (Rx Qd)) (ga:Option Addr) (gn gc:Nat) (oa:Option Addr) (on oc:Nat) (pa:Option Addr) (pn pc:Nat) [h1:RdC G H ga (qds s.C)] [h2:RdC G H oa (qds s.D)] [h3:RdC G H pa (X.map rxV)] (hgn:gn=s.C.length) (hgc:gn≤gc) (hon:on=s.D.length) (hoc:on≤oc) (hpn:pn=X.length) (hX:X.map (·.2.2)=s.past) (hr:RdX qds G H X):
 SV Tryz.prog G 36 [.agg (scnC s ga gn gc oa on oc pa pn pc).toArray] H (.int .i64 0):=by
 have hz:=f.g.size
 have hl1:=f.g.len1
 have hl2:=f.o.len1
 have hpl:pn≤40:=by rw[hpn];have:=congrArg List.length hX;rw[List.length_map] at this;rw[this];exact f.past
 have ht:=f.top
 have hwr:IntKind.i64.wrap (s.bot-1)=s.bot-1:=IntWalk.i64_in _ (by omega)
 rw[←B82]
 refine Bf4 G H (tocS s) s.C s.D X ga gn gc oa on oc pa pn pc hr hgn hgc hon hoc hpn (by omega) (by omega) (by omega) 0 (.inl ⟨O,?_⟩)
 have hg:gridE (tocS s).w (tocS s).h s.C=0:=f.g.e
 have ho:gridE (tocS s).w2 (tocS s).h2 s.D=0:=f.o.e
 have hr:=f.row
 have hc:=f.col
 refine⟨⟨⟨⟨⟨⟨⟨⟨hg,ho,O,O⟩,⟨hr.1,by show s.row≤(s.h:Int)-1;omega⟩,⟨hc.1,by show s.col≤(s.w:Int)-1;omega⟩,?_⟩,⟨ht.1,by show s.top≤IntKind.i64.wrap (s.bot-1);rw[hwr];omega⟩,ht.2.2⟩,if_pos f.pen,if_pos f.spen,f.modes⟩,.inr ⟨f.p0,f.sp0⟩,.inr ⟨f.p1,f.sp1⟩⟩,f.sh,f.ssh⟩,f.sr,f.sc⟩,f.ti,Bk7 f hX⟩
 show s.late=false∨s.col=(s.w:Int)-1
 cases hl:s.late
 ·exact .inl O
 ·exact .inr (f.late hl)
theorem BI1 (G:Ctx) (H:List Ent) (s:Scr) (f:OkS s) (X:List (Rx Qd)) (ga:Option Addr) (gn gc:Nat) (oa:Option Addr) (on oc:Nat) (pa:Option Addr) (pn pc:Nat) [h1:RdC G H ga (qds s.C)] [h2:RdC G H oa (qds s.D)] [h3:RdC G H pa (X.map rxV)] (hgn:gn=s.C.length) (hon:on=s.D.length) (hpn:pn=X.length) (hX:X.map (·.2.2)=s.past) (hr:RdX qds G H X):
 SC Tryz.prog G 56 [.agg (scnC s ga gn gc oa on oc pa pn pc).toArray] H (ClnP G H s gn on):=by
 have hz:=f.g.size
 have hl1:=f.g.len1
 have hl2:=f.o.len1
 have hg0:0<gn:=by rw[hgn,f.g.len];exact Nat.mul_pos (by omega) (by omega)
 have ho0:0<on:=by rw[hon,f.o.len];exact Nat.mul_pos (by omega) (by omega)
 have hpl:pn≤40:=by rw[hpn];have:=congrArg List.length hX;rw[List.length_map] at this;rw[this];exact f.past
 have cC:=fun (H:List Ent) [RdC G H ga (qds s.C)]=>BG2 (AV6 G H s.C (s.w:Int) (s.h:Int) ga gn gc rfl hgn (by omega)) hg0
 have cD:=fun (H:List Ent) [RdC G H oa (qds s.D)]=>BG2 (AV6 G H s.D (s.w:Int) (s.h:Int) oa on oc rfl hon (by omega)) ho0
 have hlx:(X.map (rxV (α:=Qd))).length=pn * 1:=by rw[List.length_map,hpn,Nat.mul_one]
 have hXl:s.past.length=pn:=by rw[←hX,List.length_map,hpn]
 have Hn:=Lib.hid hpn
 have HXl:=Lib.hid hXl
 have hrows:=f.rows
 clear hpn hXl hgn hon hl1 hl2 f
 refine Z0 Tryz.func56 O O O O O ?_
 repeat' (first|(apply E8;first|(apply A8;refine A9 ?_)|(apply K6;refine L9 O O O O O O (fun _=>?_))|(apply O6;refine Q4 O O O O (fun _=>?_)))|(apply D6)|((fail_if_success (refine J5 (id:=1) ?_));apply A7)|(apply C9))
 rename_i b b0
 refine y5 (α:=Nat×Nat×Nat×Nat) (fun g=>[(1,.pointer (some ⟨b,0,none⟩)),(2,.pointer (some ⟨b0,0,none⟩))])
  (fun g=> .blk b 41 (scnC s (some ⟨g.1,0,none⟩) gn g.2.1 (some ⟨g.2.2.1,0,none⟩) on g.2.2.2 pa pn pc):: .blk b0 41 scnZ:: .own 97 4 (some ⟨g.1,0,none⟩) gn g.2.1 (qds s.C):: .own 97 4 (some ⟨g.2.2.1,0,none⟩) on g.2.2.2 (qds s.D)::H) (fun g=>gn≤g.2.1∧on≤g.2.2.2) ?_ ?_
 ·unfold scnC
  repeat' (first|(apply E8;first|(apply A8;refine A9 ?_)|(apply F5;refine F8 O O ?_;refine O9 O O ?_)|(apply H5;first|(refine c_call O O O (cC _) O O ?_;rintro _ _ ⟨gb2,gc2,hh1,rfl,rfl⟩)|(refine c_call O O O (cD _) O O ?_;rintro _ _ ⟨ob2,oc2,hh2,rfl,rfl⟩))|(apply H8;refine AH2 O O O O O O O O O ?_))|(apply Q0;refine N8 (k:=0) J3 ?_)|(apply U3;first|(refine L8 O ?_)|(refine O4 O O O O (by kernel_rfl) (by decide+kernel) (by decide+kernel) ?_;apply M3;refine G9 (D8 O O) ?_)|(refine O5 O ?_)|(refine N9 (by decide+kernel) ?_)|(refine Q6 (by kernel_rfl) ?_))|(apply V3;first|(refine Q5 O)|(refine U1 (by decide+kernel) ?_)|(refine Q3 O ?_ ?_))|(refine J5 (id:=1) ?_;refine q8 (b:=b) ?_))
  all_goals exact J6 (gb2,gc2,ob2,oc2) ⟨hh1,hh2⟩ Q7 J3
 rintro ⟨gb2,gc2,ob2,oc2⟩ ⟨hh1,hh2⟩
 dsimp only at hh1 hh2 ⊢
 clear cC cD
 unfold scnC
 repeat' (first|(apply E8;first|(apply A8;refine A9 ?_)|(apply C8;refine D7 O O ?_)|(apply F5;refine F8 O O ?_;refine F4 O ?_)|(apply D5;refine D9 O O ?_)|(apply G6;refine G7 (D8 O O) O ?_)|(apply K5;refine s_call (S9 O O) O ?_))|(apply D6)|(apply F3)|((fail_if_success (refine J5 (id:=4) ?_));apply A7)|(apply C9))
 refine R7 (α:=(List (Rx Qd)×List Ent)×Option Addr×Nat) (fun g=>[(1,.pointer (some ⟨b,0,none⟩)),(2,.pointer (some ⟨b0,0,none⟩)),(3,.slice g.2.1 g.1.1.length g.2.2),(15,.slice pa pn pc),(16,.int .i64 pn),(17,.int .i64 g.1.1.length)])
  (fun g=> .own 119 1 g.2.1 g.1.1.length g.2.2 (g.1.1.map rxV):: .blk b 41 (scnC s (some ⟨gb2,0,none⟩) gn gc2 (some ⟨ob2,0,none⟩) on oc2 pa pn pc):: .blk b0 41 scnZ:: .own 97 4 (some ⟨gb2,0,none⟩) gn gc2 (qds s.C)::(g.1.2++(.own 97 4 (some ⟨ob2,0,none⟩) on oc2 (qds s.D)::H)))
  (fun g=>g.1.1.length≤pn∧g.1.1.map (·.2.2)=s.past.take g.1.1.length∧RdX qds G g.1.2 g.1.1) (fun g=>pn-g.1.1.length) (([],[]),none,0) ⟨Nat.zero_le _,rfl,RdX.nil⟩ Q7 (fun _ hw=>hw.nilrow _ _) ?_
 rintro ⟨⟨Y,E⟩,a,c⟩ ⟨hi,hY,hYr⟩
 dsimp only at hi hY hYr ⊢
 have hone:(Y.map (rxV (α:=Qd))).all (·.oneCell')=true:=by simp [List.all_map,Function.comp_def,rxV,Value.oneCell']
 have hly:(Y.map (rxV (α:=Qd))).length=Y.length * 1:=by rw[List.length_map,Nat.mul_one]
 generalize hYl:Y.length=k at *
 by_cases hlt:(k:Int)<pn
 ·obtain⟨x,hx⟩:=AC3 (X:=X) (k:=k) (by rw[←Hn.out];omega)
  have hsl:=hr.at hx
  have hxp:s.past[k]? =some x.2.2:=by rw[←hX,List.getElem?_map,hx];rfl
  have hgx:=hrows _ (List.mem_of_getElem? hxp)
  have e1:take? ((X.map (rxV (α:=Qd))).drop ((k:Int).toNat * 1)) 1=some [rxV x]:=by
   rw[Int.toNat_natCast,Nat.mul_one]
   have hlt:=(List.getElem?_eq_some_iff.1 hx).1
   refine AM1 O ?_
   rw[List.drop_eq_getElem_cons (by rw[List.length_map];exact hlt),List.take_succ_cons,List.take_zero,List.getElem_map,(List.getElem?_eq_some_iff.1 hx).2]
  obtain⟨xa,xc,R⟩:=x
  have e1:take? ((X.map (rxV (α:=Qd))).drop ((k:Int).toNat * 1)) 1=some [.slice xa R.length xc]:=e1
  dsimp only at hgx hxp
  have hll:=hgx.len1
  have hRl:R.length=R.length:=rfl
  haveI hrd:RdC G H xa (qds R):=hsl.rd
  haveI hrd2:∀E',RdC G (E'++(.own 97 4 (some ⟨ob2,0,none⟩) on oc2 (qds s.D)::H)) xa (qds R):=fun E'=>⟨fun w hw=>hrd.here w ((hw.sub (List.sublist_append_right E' _)).drop)⟩
  haveI hrd3:∀E',RdC G (E'++(.own 97 4 (some ⟨ob2,0,none⟩) on oc2 (qds s.D)::H)) pa (X.map rxV):=fun E'=>⟨fun w hw=>h3.here w ((hw.sub (List.sublist_append_right E' _)).drop)⟩
  have cQ:=fun (H:List Ent) [RdC G H xa (qds R)]=>AR4 G H R xa R.length xc rfl rfl (by omega)
  have hsn:s.past.take (k+1)=s.past.take k++[R]:=by
   have hl2:=(List.getElem?_eq_some_iff.1 hxp).1
   rw[List.take_succ_eq_append_getElem hl2,(List.getElem?_eq_some_iff.1 hxp).2]
  clear hX hr hsl hgx hx hrows HXl hxp
  repeat' (first|(apply E8;first|(apply A8;refine A9 ?_)|(apply C8;refine D7 O O ?_)|(apply E5;refine F7 O O O ?_;first|(apply K9;refine L6 ⟨by omega,by omega⟩ ?_)|refine F9 O ?_)|(apply F5;first|(refine F8 O O ?_;refine F4 O ?_)|(refine F8 O O ?_;refine l6 e1 O ?_))|(apply D5;refine D9 O O ?_)|(apply G6;refine G7 (D8 O O) O ?_)|(apply U0;refine U6 (Q9 O O O) O ?_)|(apply M4;refine M8 (K7 O O O hlx (by omega) (by omega)) O ?_)|(apply H5;refine c_call O O O (cQ _) O O ?_;rintro _ _ ⟨na,nc,rfl,rfl⟩)|(apply K5;refine U9 O O O O (by (rfl)) (by (rfl)) (by omega) O O (fun _ _=>?_))|(apply H8;refine Q8 O O O O O O O O ?_)|(apply O6;refine Q4 O O O O (fun _=>?_))|(apply j3;refine AX2 O O O O O O O O O (fun _=>?_)))|(apply D6)|(apply G8)|(apply F3)|(apply A7)|(refine G5 O ?_;apply E9<;>intro hq<;>(try (exfalso;omega)))|(apply C9)|(apply H9))
  rename_i b5 b6 a2 c2
  have hlen:(Y++[((na,nc,R):Rx Qd)]).length=k+1:=by rw[List.length_append,hYl];rfl
  have hmap:(Y++[((na,nc,R):Rx Qd)]).map (rxV (α:=Qd))=Y.map rxV++[.slice na R.length nc]:=by rw[List.map_append];rfl
  refine J6 ((Y++[((na,nc,R):Rx Qd)],.own 97 4 na R.length nc (qds R)::E),a2,c2) ?_ ?_ ?_
  ·dsimp only
   rw[hlen]
   refine⟨⟨by omega,by rw[List.map_append,hY,hsn];rfl,?_⟩,by omega⟩
   exact hYr.cons.snoc (Sl.own (e:=97) (sz:=4) (n:=R.length) (vs:=qds R) List.mem_cons_self O O)
  ·dsimp only
   rw[hlen]
   exact Q7
  ·dsimp only
   rw[hlen,hmap]
   exact J3
 ·obtain rfl:k=pn:=by omega
  have hYp:Y.map (·.2.2)=s.past:=by rw[hY,List.take_of_length_le (by rw[HXl.out];exact Nat.le_refl _)]
  unfold scnC
  repeat' (first|(apply E8;first|(apply A8;refine A9 ?_)|(apply C8;refine D7 O O ?_)|(apply E5;refine F7 O O O ?_;refine F9 O ?_)|(apply F5;refine F8 O O ?_;refine M5 O ?_)|(apply G6;refine G7 (D8 O O) O ?_)|(apply H8;first|refine M9 O O O O O O O ?_ |refine Q8 O O O O O O O O ?_))|(apply D6)|(apply I4)|(apply O7)|(apply A7)|(refine G5 O ?_;apply E9<;>intro hq<;>(try (exfalso;omega)))|(apply C9)|(apply K3)|(apply K4))
  refine AB4 (.own 97 4 (some ⟨gb2,0,none⟩) gn gc2 (qds s.C):: .own 119 1 a k c (Y.map rxV)::(E++(.own 97 4 (some ⟨ob2,0,none⟩) on oc2 (qds s.D)::H))) (.inr O) O O O J3 ?_
  exact⟨gb2,gc2,ob2,oc2,a,c,Y,E,by rw[hYl];rfl,by rw[hYl],hYr,hYp,hh1,hh2⟩
theorem BD5 (G:Ctx) (H:List Ent) (A:List Ac) {vs:List Value} (a:Option Addr) (n c:Nat) [h1:RdC G H a vs] (hv:vs=acs A) (hn:n=A.length) (hm:n≤9000000) (hb:∀y∈A,actOk (plA y)) (hr:∀y∈A,Sl ints G H y.2.2.2.2.1):SV Tryz.prog G 57 [.slice a n c] H (.int .i64 0):=by
 have hlx:vs.length=n * 6:=by rw[hv,Ar5,hn]
 have hel:∀(k:Nat) x,A[k]? =some x→take? (vs.drop ((k:Int).toNat * 6)) 6=some (acC x):=fun k x hx=>by subst hv;exact Ah9 hx
 have Hn:=Lib.hid hn
 clear hn hv
 refine P8 Tryz.func57 O O O O O ?_
 repeat' (first|(apply E8;first|(apply A8;refine A9 ?_)|(apply C8;refine D7 O O ?_)|(apply D5;refine D9 O O ?_)|(apply K5;refine s_call (S9 O O) O ?_))|(apply D6)|(apply F3)|((fail_if_success (refine J5 (id:=2) ?_));apply A7)|(apply C9))
 refine R7 (α:=Nat) (fun k=>[(0,.slice a n c),(5,.slice a n c),(6,.int .i64 n),(7,.int .i64 k)]) (fun _=>H)
  (fun k=>k≤n) (fun k=>n-k) 0 (Nat.zero_le _) Q7 J3 ?_
 intro k hk
 by_cases hlt:(k:Int)<n
 ·obtain⟨x,hx⟩:=AC3 (X:=A) (k:=k) (by rw[←Hn.out];omega)
  have e1:=hel k x hx
  have hbx:=hb x (List.mem_of_getElem? hx)
  have hrx:=hr x (List.mem_of_getElem? hx)
  obtain⟨kk,cc,mm,ii,⟨ra,rc,L⟩,tt⟩:=x
  obtain⟨h2,h3,h4⟩:=hbx
  unfold plA at h2 h3 h4
  dsimp only at h2 h3 h4 hrx
  have hany:L.any AD9=false:=by
   rw[List.any_eq_false]
   intro x hx
   have:=h3 x hx
   unfold AD9
   simp only[decide_eq_true_eq]
   omega
  have hi:=hrx.rd
  dsimp only at hi
  have cF:=fun (H:List Ent) [RdC G H ra (ints L)]=>Ad0 G H 104 AD9 L ra L.length rc rfl rfl (by unfold maxLen;omega) (fun H x _=>BY6 G H x)
  rw[hany] at cF
  have e1:take? (vs.drop ((k:Int).toNat * 6)) 6=some [.int .i64 kk,.int .i64 cc,.int .i64 mm,.string ii,.slice ra L.length rc,.string tt]:=e1
  clear hel hb hx hr hrx h3 hany
  generalize L.length=ln at *
  repeat' (first|(apply E8;first|(apply A8;refine A9 ?_)|(apply C8;refine D7 O O ?_)|(apply E5;refine F7 O O O ?_;first|(apply K9;refine L6 ⟨by omega,by omega⟩ ?_)|refine F9 O ?_)|(apply F5;first|(refine F8 O O ?_;refine F4 O ?_)|(refine F8 O O ?_;refine l6 e1 O ?_))|(apply I6;refine J4 O O ?_;apply M6;refine M7 O ?_)|(apply G6;refine G7 (D8 O O) O ?_)|(apply M4;refine M8 (K7 O O O hlx (by omega) (by omega)) O ?_)|(apply H5;refine H6 O O O (cF _) O O ?_)|(apply K5;first|refine s_call (S9 O O) O ?_ |refine s_call (U2 O O) O ?_)|(apply H8;refine Q8 O O O O O O O O ?_)|(apply O6;refine Q4 O O O O (fun _=>?_))|(apply I5;refine J9 O O O O ?_;first|(apply I1)|(apply P5<;>intro hq<;>(try (exfalso;omega)))))|(apply D6)|(apply G8)|(apply F3)|(apply A7)|(refine G5 O ?_;first|(apply H7)|(apply E9<;>intro hq<;>(try (exfalso;omega))))|(apply C9)|(apply H9))
  exact J6 (k+1) ⟨by omega,by omega⟩ Q7 J3
 ·obtain rfl:k=n:=by omega
  repeat' (first|(apply E8;first|(apply A8;refine A9 ?_)|(apply E5;refine F7 O O O ?_;refine F9 O ?_)|(apply D5;refine D9 O O ?_))|(apply D6)|(apply I4)|(apply O7)|(apply A7)|(refine G5 O ?_;apply E9<;>intro hq<;>(try (exfalso;omega)))|(apply C9)|(apply K3)|(apply K4))
  refine N7 (by (exact .inr O)) O O0 ?_
  rfl
def RunQ (G:Ctx) (H:List Ent) (s':Scr) (t:ByteArray) (v:Value) (H':List Ent):Prop:=
 ∃(ga:Option Addr) (gn gc:Nat) (oa:Option Addr) (on oc:Nat) (pa:Option Addr) (pn pc:Nat) (X:List (Rx Qd)) (E:List Ent),v= .tuple #[.agg (scnC s' ga gn gc oa on oc pa pn pc).toArray,.string t,.int .i64 0]∧H'=E++H∧ScRd G E s' ga gn gc oa on oc pa pn pc X
theorem BG4 (G:Ctx) (hT:∀H,AB2 G H) (H:List Ent) (s:Scr) (f:OkS s) (X:List (Rx Qd)) (ga:Option Addr) (gn gc:Nat) (oa:Option Addr) (on oc:Nat) (pa:Option Addr) (pn pc:Nat) (hS:ScRd G H s ga gn gc oa on oc pa pn pc X) (A:List Ac) (hA:A.length≤10000) (hg:∀y∈A,actIn (plA y)) (hr0:∀y∈A,Sl ints G H y.2.2.2.2.1) (aa:Option Addr) (ac:Nat) [h4:RdC G H aa (acs A)]:
 SC Tryz.prog G 31 [.agg (scnC s ga gn gc oa on oc pa pn pc).toArray,.slice aa A.length ac] H (RunQ G H (runA s (A.map plA)) (sentA s (A.map plA))):=by
 obtain⟨h1,h2,h3,hr,hX,hgn,hon,hpn,hgc,hoc⟩:=hS
 have cK:=fun (H':List Ent) (hh:∀w,Holds G H' w→Holds G H w)=>by
  haveI:RdC G H' ga (qds s.C):=⟨fun w hw=>h1.here w (hh w hw)⟩
  haveI:RdC G H' oa (qds s.D):=⟨fun w hw=>h2.here w (hh w hw)⟩
  haveI:RdC G H' pa (X.map rxV):=⟨fun w hw=>h3.here w (hh w hw)⟩
  exact BE3 G H' s f X ga gn gc oa on oc pa pn pc hgn hgc hon hoc hpn hX (hr.mono hh)
 have cC:=fun (H':List Ent) (hh:∀w,Holds G H' w→Holds G H w)=>by
  haveI:RdC G H' ga (qds s.C):=⟨fun w hw=>h1.here w (hh w hw)⟩
  haveI:RdC G H' oa (qds s.D):=⟨fun w hw=>h2.here w (hh w hw)⟩
  haveI:RdC G H' pa (X.map rxV):=⟨fun w hw=>h3.here w (hh w hw)⟩
  exact BI1 G H' s f X ga gn gc oa on oc pa pn pc hgn hon hpn hX (hr.mono hh)
 have cA:=fun (H':List Ent) (hh:∀w,Holds G H' w→Holds G H w)=>by
  haveI:RdC G H' aa (acs A):=⟨fun w hw=>h4.here w (hh w hw)⟩
  exact BD5 G H' A aa A.length ac O O (by omega) (fun y hy=>(hg y hy).1) (fun y hy=>(hr0 y hy).mono hh)
 have hlx:(acs A).length=A.length * 6:=Ar5 A
 have hel:∀(k:Nat) x,A[k]? =some x→take? ((acs A).drop ((k:Int).toNat * 6)) 6=some (acC x):=fun k x hx=>Ah9 hx
 have hok:∀y∈A.map plA,actOk y:=fun y hy=>by
  obtain⟨x,hx,rfl⟩:=List.mem_map.1 hy
  exact(hg x hx).1
 have hft:∀k,OkS (runA s ((A.map plA).take k)):=fun k=>OkS.run _ f fun y hy=>hok y (List.mem_of_mem_take hy)
 have htz:∀k,(sentA s ((A.map plA).take k)).size≤1000000:=fun k=>by
  have:=AT9 ((A.map plA).take k) f fun y hy=>hok y (List.mem_of_mem_take hy)
  have h5:((A.map plA).take k).length≤A.length:=by rw[List.length_take,List.length_map];omega
  omega
 have hat:∀k x,A[k]? =some x→runA s ((A.map plA).take (k+1))=actA (runA s ((A.map plA).take k)) (plA x)∧sentA s ((A.map plA).take (k+1))=sentA s ((A.map plA).take k)++actT (runA s ((A.map plA).take k)) (plA x):=fun k x hx=>BR9 s (by rw[List.getElem?_map,hx];rfl)
 have hall:(A.map plA).take A.length=A.map plA:=List.take_of_length_le (by rw[List.length_map];exact Nat.le_refl _)
 rw[←hall]
 clear hok hall
 have h00:runA s ((A.map plA).take 0)=s∧sentA s ((A.map plA).take 0)=ByteArray.empty:=⟨rfl,rfl⟩
 generalize hFA:(fun k=>runA s ((A.map plA).take k))=FA
 generalize hFT:(fun k=>sentA s ((A.map plA).take k))=FT
 have eA:∀k,runA s ((A.map plA).take k)=FA k:=fun k=>congrFun hFA k
 have eT:∀k,sentA s ((A.map plA).take k)=FT k:=fun k=>congrFun hFT k
 simp only[eA,eT] at hft htz hat h00 ⊢
 clear eA eT hFA hFT
 generalize acs A=vs at *
 generalize hn:A.length=n at *
 have Hn:=Lib.hid hn
 clear hn
 refine I7 Tryz.func31 O O O O O ?_
 repeat' (first|(apply E8;first|(apply A8;refine A9 ?_)|(apply C8;refine D7 O O ?_)|(apply E5;refine F7 O O O ?_;refine F9 O ?_)|(apply F5;refine F8 O O ?_;refine M5 O ?_)|(apply D5;refine D9 O O ?_)|(apply U0;refine U6 (Q9 O O O) O ?_)|(apply H5;first|refine H6 O O O (cK _ J3) O O ?_ |refine H6 O O O (cA _ J3) O O ?_ |(refine c_call O O O (cC _ J3) O O ?_;rintro _ _ ⟨gb2,gc2,ob2,oc2,pa2,pc2,Y,E,rfl,rfl,r1,r2,r3,r4⟩))|(apply K5;refine s_call (S9 O O) O ?_)|(apply K6;refine L9 O O O O O O (fun _=>?_))|(apply O6;refine Q4 O O O O (fun _=>?_)))|(apply D6)|(apply G8)|(apply F3)|((fail_if_success (refine J5 (id:=9) ?_));apply A7)|(refine G5 O ?_;apply H7)|(apply C9))
 clear cK cC cA
 rename_i b2 b4 tb
 have hpm:∀(p o:Ent) (L:List Ent),(p::(E++o::L)).Perm (o::p::(E++L)):=fun p o L=>List.perm_middle (l₁:=p::E)
 have hq0:TmQ G tb (FT 0) (FA 0) (.blk b4 41 scnZ::H) (.blk tb 158 (trmC s (some ⟨gb2,0,none⟩) gn gc2 (some ⟨ob2,0,none⟩) on oc2 pa2 Y.length pc2 ByteArray.empty):: .own 97 4 (some ⟨gb2,0,none⟩) gn gc2 (qds s.C):: .own 97 4 (some ⟨ob2,0,none⟩) on oc2 (qds s.D):: .own 119 1 pa2 Y.length pc2 (Y.map rxV)::(E++(.blk b4 41 scnZ::H))):=by
  rw[h00.1,h00.2]
  exact⟨gb2,gn,gc2,ob2,on,oc2,_,pa2,Y.length,pc2,Y,E,O,RowE.own _ _ _ _,r1,r2,hgn,r3,hon,r4,O⟩
 refine R7 (α:=Nat×List Ent) (fun g=>[(4,.pointer (some ⟨b4,0,none⟩)),(9,.pointer (some ⟨tb,0,none⟩)),(30,.slice aa n ac),(31,.int .i64 n),(32,.int .i64 g.1)]) (fun g=>g.2)
  (fun g=>g.1≤n∧TmQ G tb (FT g.1) (FA g.1) (.blk b4 41 scnZ::H) g.2) (fun g=>n-g.1) (0,_) ⟨Nat.zero_le _,hq0⟩ Q7
  (fun w hw=>(hw.sub (.cons_cons _ (.cons_cons _ (.cons_cons _ ((List.Sublist.refl E).append (.cons_cons _ (.cons_cons _ (.cons _ (.refl H))))))))).perm (.cons _ (.cons _ (hpm _ _ _)))) ?_
 clear hq0 h00 r1 r2 r3 r4
 rintro ⟨k,Hk⟩ ⟨hk,hqk⟩
 dsimp only at hk hqk ⊢
 by_cases hlt:(k:Int)<n
 ·obtain⟨x,hx⟩:=AC3 (X:=A) (k:=k) (by rw[Hn.out];omega)
  have e1:=hel k x hx
  have hst:=hat k x hx
  have hrx:=hr0 x (List.mem_of_getElem? hx)
  have hgx:=hg x (List.mem_of_getElem? hx)
  haveI hia:=hrx.rd
  have cT:=fun (K' H':List Ent) (hq':TmQ G tb (FT k) (FA k) K' H') (h1':RdC G K' x.2.2.2.2.1.1 (ints x.2.2.2.2.1.2.2))=>actQ G tb (FT k) hT K' H' (FA k) (hft k) hq' (htz k) x hgx
  haveI hrd:RdC G Hk aa vs:=⟨fun w hw=>h4.here w (hqk.rd w hw).drop⟩
  obtain⟨hst1,hst2⟩:=hst
  clear hft htz hat hel hx hr0 hg hgx hrx
  generalize FT k++actT (FA k) (plA x)=t2 at *
  generalize actA (FA k) (plA x)=s2 at *
  obtain⟨kk,cc,mm,ii,⟨ra,rc,L⟩,tt⟩:=x
  dsimp only at cT hia
  have e1:take? (vs.drop ((k:Int).toNat * 6)) 6=some [.int .i64 kk,.int .i64 cc,.int .i64 mm,.string ii,.slice ra L.length rc,.string tt]:=e1
  generalize L.length=ln at *
  repeat' (first|(apply E8;first|(apply A8;refine A9 ?_)|(apply C8;refine D7 O O ?_)|(apply E5;refine F7 O O O ?_;refine F9 O ?_)|(apply F5;first|(refine F8 O O ?_;refine M5 O ?_)|(refine F8 O O ?_;refine l6 e1 O ?_))|(apply M4;refine M8 (K7 O O O hlx (by omega) (by omega)) O ?_)|(apply H8;refine Q8 O O O O O O O O ?_)|(apply O6;refine Q4 O O O O (fun _=>?_)))|(apply D6)|(apply G8)|(apply F3)|(apply A7)|(refine G5 O ?_;apply E9<;>intro hq<;>(try (exfalso;omega)))|(apply C9))
  rename_i bx
  obtain⟨H2,hp2,hq2⟩:=hqk.push (.blk bx 160 [.int .i64 kk,.int .i64 cc,.int .i64 mm,.string ii,.slice ra ln rc,.string tt])
  refine AO9 (fun _ hw=>hw.perm hp2) ?_
  repeat' (first|(apply E8;first|(apply A8;refine A9 ?_)|(apply C8;refine D7 O O ?_)|(apply E5;refine F7 O O O ?_;apply K9;refine L6 ⟨by omega,by omega⟩ ?_)|(apply H5;refine c_call O O O (cT _ _ hq2 inferInstance) O O ?_;rintro _ _ ⟨rfl,hq3⟩))|(apply A7)|(apply C9)|(apply H9))
  exact J6 (k+1,_) ⟨⟨by dsimp only;omega,by dsimp only;rw[hst1,hst2];exact hq3.cut⟩,by dsimp only;omega⟩ Q7 (fun _ hw=>hw)
 ·obtain rfl:k=n:=by omega
  clear hft htz hat hel hr0 hg
  generalize FA k=s2 at *
  generalize FT k=t2 at *
  obtain⟨gb,gn2,gc2,ob,on2,oc2,P,pa3,pn3,pc3,X3,E3,rfl,hi⟩:=hqk
  unfold trmC
  repeat' (first|(apply E8;first|(apply A8;refine A9 ?_)|(apply E5;refine F7 O O O ?_;refine F9 O ?_))|(apply D6)|(apply O7)|((fail_if_success (refine J5 (id:=13) ?_));apply A7)|(refine G5 O ?_;apply E9<;>intro hq<;>(try (exfalso;omega)))|(apply C9)|(apply K3)|(apply K4))
  repeat' (first|(apply E8;first|(apply A8;refine A9 ?_)|(apply H8;refine Q8 O O O O O O O O ?_))|(apply Q0;refine N8 (k:=0) J3 ?_)|(apply U3;first|(refine L8 O ?_)|(refine O4 O O O O (by kernel_rfl) (by decide+kernel) (by decide+kernel) ?_;first|(apply O1;refine G9 (P9 O O) ?_)|(apply R9;refine R6 O ?_;first|refine F4 O ?_ |refine O9 O O ?_)|(apply AA4;refine G9 (o6 O O) ?_)|(apply M3;refine G9 (D8 O O) ?_)|(apply R5;refine G9 (F6 O O) ?_))|(refine O5 O ?_)|(refine N9 (by decide+kernel) ?_)|(refine Q6 (by kernel_rfl) ?_))|(apply V3;first|(refine Q5 O)|(refine U1 (by decide+kernel) ?_)|(refine Q3 O ?_ ?_))|(apply I4)|(apply C9)|(refine J5 (id:=13) ?_;refine q8 (b:=b4) ?_))
  all_goals
   have hE:∀w,Holds G (.own 97 4 (some ⟨gb,0,none⟩) gn2 gc2 (qds s2.C):: .own 97 4 (some ⟨ob,0,none⟩) on2 oc2 (qds s2.D)::P::E3) w→Holds G E3 w:=fun w hw=>hw.drop.drop.drop
   refine AB4 ((.own 97 4 (some ⟨gb,0,none⟩) gn2 gc2 (qds s2.C):: .own 97 4 (some ⟨ob,0,none⟩) on2 oc2 (qds s2.D)::P::E3)++H) (.inr O) O O O (fun w hw=>hw.sub (.cons _ (.cons _ (.refl _)))) ?_
   haveI hpr:RdC G (P::E3) pa3 (X3.map rxV):=hi.p.rd
   exact⟨some ⟨gb,0,none⟩,gn2,gc2,some ⟨ob,0,none⟩,on2,oc2,pa3,pn3,pc3,X3,_,O,O,⟨inferInstance,inferInstance,inferInstance,hi.r.mono hE,hi.x,hi.gn',hi.on',hi.pn',hi.gc',hi.oc'⟩⟩
end
theorem A09 (g:ByteArray):(readA g).1.length≤32∧∀x∈(readA g).1,-1≤x∧x≤16383:=by
 unfold readA
 split
 ·rename_i h
  refine⟨by rw[List.length_map,List.length_take];omega,fun x hx=>?_⟩
  obtain⟨w,hw,rfl⟩:=List.mem_map.1 hx
  exact BG9 _ (Ad7 g h w (List.mem_of_mem_take hw)).1
 ·exact⟨Nat.zero_le _,nofun⟩
theorem AU8 {k c m:Int} {i t:ByteArray} (ht:t.size≤256) (hc:k=1→ -1≤c∧c≤2000000):actIn (k,c,m,i,[],t):=⟨⟨Nat.zero_le _,nofun,ht⟩,hc⟩
theorem An4:actIn dP:=AU8 (by decide) (by decide)
theorem B65 (p:Ps) (x:Int):actIn (finP p x):=by
 unfold finP
 split
 ·exact An4
 split
 ·exact AU8 (Nat.zero_le _) (fun h=>by omega)
 ·exact⟨⟨(A09 _).1,(A09 _).2,Nat.zero_le _⟩,fun h=>by dsimp only at h;omega⟩
def InS (Z:Ps×List Pa):Prop:=(∀y∈Z.2,actIn y)∧Z.1.2.2.2.2.size≤256
theorem InS.none {p:Ps} (h:p.2.2.2.2.size≤256):InS (p,[]):=⟨nofun,h⟩
theorem InS.one {p:Ps} {y:Pa} (h:p.2.2.2.2.size≤256) (hy:actIn y):InS (p,[y]):=⟨fun z hz=>by rw[List.mem_singleton] at hz;rw[hz];exact hy,h⟩
theorem InS.ite {c:Prop} [Decidable c] {a b:Ps×List Pa} (ha:c→InS a) (hb:¬c→InS b):InS (if c then a else b):=by
 by_cases h:c
 ·rw[if_pos h];exact ha h
 ·rw[if_neg h];exact hb h
theorem A32 (p:Ps) (x w:Int) (R:Ps×List Pa) (hx:0≤x∧x≤1114111) (hT:p.2.2.2.2.size≤256) (hR:InS R):InS (stepW p x w R):=by
 have hz:(e0:ByteArray).size≤256:=Nat.zero_le _
 unfold stepW
 refine .ite (fun _=> .one hz An4) fun _=>?_
 refine .ite (fun _=>⟨fun y hy=>?_,hz⟩) fun _=>?_
 ·dsimp only at hy
  by_cases h:p.1=0
  ·rw[if_pos h] at hy;cases hy
  ·rw[if_neg h,List.mem_singleton] at hy;rw[hy];exact An4
 refine .ite (fun _=> .one hT (AU8 hz (fun h=>by omega))) fun _=>?_
 refine .ite (fun _=> .one hT (AU8 hz (fun _=>by omega))) fun _=>?_
 refine .ite (fun _=> .none hT) fun _=>?_
 refine .ite (fun _=> .none hT) fun _=>?_
 refine .ite (fun _=> .none hT) fun _=>?_
 refine .ite (fun _=> .none hz) fun _=>?_
 refine .ite (fun _=> .none hz) fun _=>?_
 refine .ite (fun _=> .none hz) fun _=>?_
 refine .ite (fun _=> .none hz) fun _=>?_
 refine .ite (fun _=> .none hz) fun _=>?_
 refine .ite (fun _=> .none hT) fun _=>?_
 refine .ite (fun _=> .none ?_) fun _=>?_
 ·show (if p.2.2.2.2.size+(rtB x).size≤256 then p.2.2.2.2++rtB x else p.2.2.2.2).size≤256
  by_cases h:p.2.2.2.2.size+(rtB x).size≤256
  ·rw[if_pos h,ByteArray.size_append];exact h
  ·rw[if_neg h];exact hT
 refine .ite (fun _=> .one hz ?_) fun _=>?_
 ·by_cases h:8<p.1
  ·rw[if_pos h];exact An4
  ·rw[if_neg h];exact AU8 hT (fun h=>by omega)
 refine .ite (fun _=> .one hz (B65 p x)) fun _=>?_
 refine .ite (fun _=>⟨fun y hy=>?_,hR.2⟩) fun _=> .none hT
 rcases List.mem_cons.1 hy with rfl|hy
 ·exact An4
 ·exact hR.1 y hy
theorem Bo6 (p:Ps) (x:Int) (hT:p.2.2.2.2.size≤256):InS (stepP p x):=by
 unfold stepP
 split
 ·exact .none hT
 ·exact A32 p x _ _ (by omega) hT (A32 _ x _ _ (by omega) (Nat.zero_le _) (.none (Nat.zero_le _)))
theorem AY6 (p:Ps) (L:List Int) (hT:p.2.2.2.2.size≤256):InS (runP p L):=by
 unfold runP
 have key:∀(L:List Int) (Z:Ps×List Pa),InS Z→InS (L.foldl (fun z x=>((stepP z.1 x).1,z.2++(stepP z.1 x).2)) Z):=by
  intro L
  induction L with
  | nil=>exact fun Z h=>h
  | cons x L ih=>
    intro Z h
    rw[List.foldl_cons]
    have h3:=Bo6 Z.1 x h.2
    refine ih _ ⟨fun y hy=>?_,h3.2⟩
    rcases List.mem_append.1 hy with hy|hy
    ·exact h.1 y hy
    ·exact h3.1 y hy
 exact key L (p,[]) (.none hT)
section
attribute [local irreducible] SW SL SQ AtQ SV SC BB LD PK Yields SO SOT SOA SY SP SPT SPA
theorem A29 (G:Ctx) (hP:∀H,AB2 G H) (H:List Ent) (M:Int) (hM:∀H w,Holds G H w→w.cell? ⟨2,0,none⟩=some (.int .i64 M)) (s:Scr) (f:OkS s) (X:List (Rx Qd)) (ga:Option Addr) (gn gc:Nat) (oa:Option Addr) (on oc:Nat) (pa:Option Addr) (pn pc:Nat) (hS:ScRd G H s ga gn gc oa on oc pa pn pc X) (L:List Int) (hL:(runP w9 L).2.length≤10000) (hp:okP w9) (ao:Option Addr) (n co:Nat) [h4:RdC G H ao (ints L)] (hn:n=L.length) (hmn:n≤4000000):
 SC Tryz.prog G 13 [.agg (scnC s ga gn gc oa on oc pa pn pc).toArray,.slice ao n co] H (RunQ G H (runA s (runP w9 L).2) (sentA s (runP w9 L).2)):=by
 have cF:=fun (H:List Ent) [RdC G H ao (ints L)]=>A38 G H M hM 0 0 e0 e0 e0 hp L ao n co hn hmn
 have hin:=(AY6 w9 L (Nat.zero_le _)).1
 generalize hZ:runP w9 L=Z at *
 obtain⟨⟨z1,z2,z3,z4,z5⟩,Z2⟩:=Z
 dsimp only at cF hL hin
 unfold RunR at cF
 have cR:=fun (H':List Ent) (hh:∀w,Holds G H' w→Holds G H w) (A:List Ac) (aa:Option Addr) (ac:Nat) (hA:A.map plA=Z2) (h4:RdC G H' aa (acs A)) (hsl:∀y∈A,Sl ints G H' y.2.2.2.2.1)=>BG4 G hP H' s f X ga gn gc oa on oc pa pn pc (hS.mono hh) A (by rw[←hA,List.length_map] at hL;exact hL) (fun y hy=>hin _ (by rw[←hA];exact List.mem_map_of_mem hy)) hsl aa ac
 clear hM hp hn hmn
 refine I7 Tryz.func13 O O O O O ?_
 repeat' (first|(apply E8;first|(apply A8;refine A9 ?_)|(apply C8;refine D7 O O ?_)|(apply D5;refine D9 O O ?_)|(apply U7;refine X7 (M0 O O O) O ?_)|(apply U0;refine U6 (Q9 O O O) O ?_)|(apply H5;refine c_call O O O (cF _) O O ?_;rintro _ _ ⟨F,A,a,c,rfl,hl,hA,hsl,hs2,rfl⟩)|(apply H8;refine Q8 O O O O O O O O ?_)|(apply K6;refine L9 O O O O O O (fun _=>?_))|(apply O6;refine Q4 O O O O (fun _=>?_)))|(apply D6)|((fail_if_success (refine J5 (id:=2) ?_));apply A7)|(apply C9))
 rename_i b2 b4 bP
 dsimp only at hA
 have hmF:∀w,Holds G (.blk bP 26 [.int .i64 z1,.int .i64 z2,.string z3,.string z4,.string z5]::(F++ .blk b4 41 scnZ:: .blk b2 41 (scnC s ga gn gc oa on oc pa pn pc)::H)) w→Holds G F w:=fun w hw=>hw.sub (List.Sublist.cons _ (List.sublist_append_left F _))
 have hi:RdC G (.blk bP 26 [.int .i64 z1,.int .i64 z2,.string z3,.string z4,.string z5]::(F++ .blk b4 41 scnZ:: .blk b2 41 (scnC s ga gn gc oa on oc pa pn pc)::H)) a (acs A):=⟨fun w hw=>hs2.rd.here w (hmF w hw)⟩
 have hsl2:∀y∈A,Sl ints G (.blk bP 26 [.int .i64 z1,.int .i64 z2,.string z3,.string z4,.string z5]::(F++ .blk b4 41 scnZ:: .blk b2 41 (scnC s ga gn gc oa on oc pa pn pc)::H)) y.2.2.2.2.1:=fun y hy=>(hsl y hy).mono hmF
 rw[←hA]
 rw[←hA] at hL
 repeat' (first|(apply E8;first|(apply A8;refine A9 ?_)|(apply C8;refine D7 O O ?_)|(apply F5;refine F8 O O ?_;refine M5 O ?_)|(apply D5;refine D9 O O ?_)|(apply U7;refine X7 (M0 O O O) O ?_)|(apply H5;refine c_call O O O (cR _ (fun w hw=>hw.sub (List.Sublist.cons _ (.trans (.cons _ (.cons _ (.refl H))) (List.sublist_append_right F _)))) A a c hA hi hsl2) O O ?_;rintro _ _ ⟨ga2,gn2,gc2,oa2,on2,oc2,pa2,pn2,pc2,X2,E,rfl,rfl,hS2⟩)|(apply H8;refine Q8 O O O O O O O O ?_))|(apply I4)|(apply A7)|(apply C9))
 refine AB4 ((E++(.blk bP 26 [.int .i64 z1,.int .i64 z2,.string z3,.string z4,.string z5]::(F++[.blk b2 41 (scnC s ga gn gc oa on oc pa pn pc)])))++H) (.inr O) O O O (fun w hw=>hw.sub (by
  rw[List.append_assoc,List.cons_append,List.append_assoc]
  exact List.Sublist.cons _ (List.Sublist.refl _))) ?_
 exact⟨ga2,gn2,gc2,oa2,on2,oc2,pa2,pn2,pc2,X2,_,O,O,hS2.mono (fun w hw=>hw.sub (List.sublist_append_left E _))⟩
end
abbrev cliG (cr:Bool) (part:ByteArray) (a b:Int) (i g t:ByteArray):List Value:=[.int .i64 0,.int .i64 0,.int .i64 0,.string .empty,.bool false,.bool cr,.string part,.int .i64 a,.int .i64 b,.string i,.string g,.string t]
abbrev wkG (cr:Bool) (part:ByteArray) (a b:Int) (i g t:ByteArray) (S N P K E:List Value):List Value:=big (cliG cr part a b i g t) S (big [] N (big P K E))
theorem AD3 {cr:Bool} {zp:ByteArray} {za zb:Int} {zi zg zt:ByteArray} {S N P K E:List Value} [hS:Len S 33] [hN:Len N 520] [hK:Len K 38] {p e k:Nat} (hP:P.length=p) (hE:E.length=e) (hk:12+(33+(520+(p+(38+e))))=k):(wkG cr zp za zb zi zg zt S N P K E).length=k:=by
 unfold wkG big
 simp only[List.length_append,hS.here,hN.here,hK.here,hP,hE,List.length_nil]
 subst hk
 show 12+_=_
 omega
section
attribute [local irreducible] SW SL SQ AtQ SV SC BB LD PK Yields SO SOT SOA SY SP SPT SPA negC
theorem Bk1 (G:Ctx) (H:List Ent) (s:Scr) (f:OkS s) (S:List Value) (h:ScS G H s S):
 SC Tryz.prog G 56 [.agg S.toArray] H fun v H'=>∃S' E,v= .agg S'.toArray∧H'=E++H∧ScS G E s S':=by
 obtain⟨ga,gn,gc,oa,on,oc,pa,pn,pc,X,rfl,hg,ho,hp,hr,hX,hgn,hon,hpn,hgc,hoc⟩:=h
 have h:=BI1 G H s f X ga gn gc oa on oc pa pn pc hgn hon hpn hX hr
 refine AA7 h fun v H'=>?_
 rintro ⟨gb,gc2,ob,oc2,pa2,pc2,Y,E,rfl,rfl,r1,r2,r3,r4⟩
 refine⟨_,.own 97 4 (some ⟨gb,0,none⟩) gn gc2 (qds s.C):: .own 119 1 pa2 Y.length pc2 (Y.map rxV)::(E++[.own 97 4 (some ⟨ob,0,none⟩) on oc2 (qds s.D)]),O,by simp,some ⟨gb,0,none⟩,gn,gc2,some ⟨ob,0,none⟩,on,oc2,pa2,Y.length,pc2,Y,rfl,?_⟩
 exact⟨inferInstance,⟨Rd.mem (e:=97) (size:=4) (n:=on) (c:=oc2) (by simp)⟩,inferInstance,r1.mono (fun w hw=>hw.sub (List.Sublist.cons _ (List.Sublist.cons _ (List.sublist_append_left E _)))),r2,hgn,hon,O,r3,r4⟩
theorem Az2 (G:Ctx) (H:List Ent) (cr:Bool) (zp:ByteArray) (za zb:Int) (zi zg zt:ByteArray) (hzp:zp.size≤1000000) (hzu:chkU (nums zp)=0) (hzq:okP (za,zb,zi,zg,zt)) (hzi:zi.size≤1000000) (hzg:zg.size≤1000000) (S N K:List Value) [hS:Len S 33] [hN:Len N 520] [hK:Len K 38] (na:Option Addr) (nn nc:Nat) (va:Option Addr) (vn vc:Nat) (buf:ByteArray) (ed:Bool) (hb:buf.size<1024) (M:Int) (hM:∀H w,Holds G H w→w.cell? ⟨2,0,none⟩=some (.int .i64 M))
 (cS:∀H':List Ent,(∀w,Holds G H' w→Holds G H w)→SV Tryz.prog G 36 [.agg S.toArray] H' (.int .i64 0))
 (cN:∀H':List Ent,SV Tryz.prog G 71 [.agg N.toArray] H' (.int .i64 0))
 (cA:∀H':List Ent,(∀w,Holds G H' w→Holds G H w)→SV Tryz.prog G 48 [.agg #[.slice na nn nc,.int .i64 0]] H' (.int .i64 0))
 (r:ByteArray) (cV:∀H':List Ent,(∀w,Holds G H' w→Holds G H w)→SV Tryz.prog G 49 [.slice va vn vc] H' (.tuple #[.string r,.int .i64 0]))
 (cK:∀H':List Ent,SV Tryz.prog G 72 [.agg K.toArray] H' (.int .i64 0)):
 SV Tryz.prog G 42 [.agg (wkG cr zp za zb zi zg zt S N [.slice na nn nc,.int .i64 0,.slice va vn vc] K (cliX buf ed)).toArray] H (.int .i64 0):=by
 have cI:∀H':List Ent,SV Tryz.prog G 70 [wireV 0 0 0 .empty false] H' (.int .i64 0):=fun H'=>by
  have h:=Aj0 G H' 0 0 0 .empty false
  rwa [show wireE 0 0 0 ByteArray.empty.size (ovI false)=0 from by decide+kernel] at h
 have cU:∀H':List Ent,SV Tryz.prog G 27 [.string zp] H' (.int .i64 0):=fun H'=>by
  have h:=Ak0 G H' zp (by omega)
  rwa [hzu] at h
 have cP:∀H':List Ent,SV Tryz.prog G 54 [psV za zb zi zg zt] H' (.int .i64 0):=fun H'=>by
  have h:=Aw3 G H' M hM za zb zi zg zt (by omega) (by omega)
  rwa [(A34 za zb zi zg zt).2 hzq] at h
 have cL:∀H':List Ent,SV Tryz.prog G 73 [.agg #[.string buf,.bool false]] H' (.int .i64 0):=fun H'=>by
  have h:=A50 G H' buf false
  rwa [if_neg (by omega)] at h
 have hlen:=AD3 (cr:=cr) (zp:=zp) (za:=za) (zb:=zb) (zi:=zi) (zg:=zg) (zt:=zt) (S:=S) (N:=N) (K:=K) (P:=[.slice na nn nc,.int .i64 0,.slice va vn vc]) (E:=cliX buf ed) rfl rfl rfl
 refine P8 Tryz.func42 O O O O O ?_
 repeat' (first|(apply E8;first|(apply A8;refine A9 ?_)|(apply C8;refine D7 O O ?_)|(apply F5;refine F8 O O ?_;refine F4 (o5 O (o5 O (BG8 O))) ?_)|(apply D5;refine D9 O O ?_)|(apply G6;refine G7 (D8 O O) O ?_)|(apply U7;refine X7 (M0 O O O) O ?_)|(apply H5;refine H6 O O O (cV _ J3) O O ?_)|(apply K6;refine L9 O O O O O O (fun _=>?_)))|(apply D6)|((fail_if_success (refine J5 (id:=2) ?_));apply A7)|(apply C9))
 refine y5 (α:=Unit) (fun _=>[(38,.agg #[.int .i64 0,.int .i64 0,.int .i64 0,.int .i64 0,.int .i64 0,.int .i64 0,.int .i64 0,.int .i64 0,.int .i64 0]),(39,.int .i64 0),(2,.int .i64 0)]) (fun _=>H) (fun _=>True) ?_ ?_
 ·repeat' (first|(apply E8;first|(apply A8;refine A9 ?_)|(apply H5;first|refine H6 O O O (cI _) O O ?_ |refine H6 O O O (cU _) O O ?_ |refine H6 O O O (cP _) O O ?_ |refine H6 O O O (cS _ J3) O O ?_ |refine H6 O O O (cN _) O O ?_ |refine H6 O O O (cA _ J3) O O ?_ |refine H6 O O O (cK _) O O ?_ |refine H6 O O O (cL _) O O ?_))|(apply Q0;refine N8 (k:=0) J3 ?_)|(apply U3;first|(refine L8 O ?_)|(refine O4 O O O O (by kernel_rfl) (by decide+kernel) (by decide+kernel) ?_;first|(apply O1;refine G9 (P9 O O) ?_)|(apply R9;first|(refine R6 O ?_;first|refine F4 O ?_ |refine O9 O O ?_)|(refine R6 O ?_;first|refine O9 (AZ9 O) O ?_ |refine O9 (AI2 O) O ?_ |refine O9 (AD8 O (AI2 O)) O ?_ |refine O9 (AD8 O (AD8 O (AZ9 O))) O ?_ |refine O9 (AD8 O (AD8 O (AI2 O))) O ?_ |refine O9 (AD8 O (AD8 O (AD8 O O))) O ?_))|(apply M3;refine G9 (D8 O O) ?_)|(apply AM5;refine G9 (Q9 O O O) ?_))|(refine O5 O ?_)|(refine N9 (by decide+kernel) ?_)|(refine Q6 (by kernel_rfl) ?_))|(apply V3;first|(refine Q5 O)|(refine U1 (by decide+kernel) ?_)|(refine Q3 O ?_ ?_))|(refine J5 (id:=2) ?_;refine Z6 _ (fun _ hw=>hw) ?_))
  all_goals exact J6 () trivial Q7 J3
 rintro ⟨⟩-
 repeat' (apply F3)
 refine Aa4 10 (Ac1 ?_)
 repeat' (first|(apply E8;first|(apply A8;refine A9 ?_)|(apply C8;refine D7 O O ?_)|(apply E5;refine F7 O O O ?_;first|(apply K9;refine L6 ⟨by omega,by omega⟩ ?_)|refine F9 O ?_)|(apply D5;refine D9 O O ?_)|(apply V5;refine Y5 (AN1 O O O (by omega) (by omega) O) O ?_))|(apply D6)|(apply A60)|(apply G8)|(apply I4)|(apply O7)|(apply F3)|(apply A7)|(refine G5 O ?_;first|(apply I1)|(apply H7))|(apply C9)|(apply K3)|(apply H9)|(apply K4))
 all_goals (refine N7 (by (exact .inr O)) O O0 ?_;rfl)
theorem Af4 (G:Ctx) (H:List Ent) (cr:Bool) (zp:ByteArray) (za zb:Int) (zi zg zt:ByteArray) (hzp:zp.size≤1000000) (hzu:chkU (nums zp)=0) (hzq:okP (za,zb,zi,zg,zt)) (hzi:zi.size≤1000000) (hzg:zg.size≤1000000) (s:Scr) (f:OkS s) (S P N K:List Value) [hN:Len N 520] [hK:Len K 38] (h:CliS G H s S P) (buf:ByteArray) (ed:Bool) (hb:buf.size<1024) (M:Int) (hM:∀H w,Holds G H w→w.cell? ⟨2,0,none⟩=some (.int .i64 M))
 (cN:∀H':List Ent,SV Tryz.prog G 71 [.agg N.toArray] H' (.int .i64 0)) (cK:∀H':List Ent,SV Tryz.prog G 72 [.agg K.toArray] H' (.int .i64 0)):
 SV Tryz.prog G 42 [.agg (wkG cr zp za zb zi zg zt S N P K (cliX buf ed)).toArray] H (.int .i64 0):=by
 obtain⟨h1,na,nc,va,vc,rfl,h2,h3,h4⟩:=h
 haveI:Len S 33:=⟨h1.len⟩
 obtain⟨ga,gn,gc,oa,on,oc,pa,pn,pc,X,rfl,hg,ho,hp,hr,hX,hgn,hon,hpn,hgc,hoc⟩:=h1
 refine Az2 G H cr zp za zb zi zg zt hzp hzu hzq hzi hzg _ N K na 1 nc va 0 vc buf ed hb M hM (fun H' hh=>?_) cN (fun H' hh=>?_) e0 (fun H' hh=>?_) cK
 ·haveI:RdC G H' ga (qds s.C):=⟨fun w hw=>hg.here w (hh w hw)⟩
  haveI:RdC G H' oa (qds s.D):=⟨fun w hw=>ho.here w (hh w hw)⟩
  haveI:RdC G H' pa (X.map rxV):=⟨fun w hw=>hp.here w (hh w hw)⟩
  exact BE3 G H' s f X ga gn gc oa on oc pa pn pc hgn hgc hon hoc hpn hX (hr.mono hh)
 ·haveI:RdC G H' na (strs [xterm]):=⟨fun w hw=>h2.here w (hh w hw)⟩
  haveI:CapC G H' na 1 nc:=⟨fun w hw=>h3.here w (hh w hw)⟩
  have h:=Ad2 G H' [xterm] na 1 nc 0 rfl (fun x hx=>by rw[List.mem_singleton] at hx;subst hx;decide) (by decide)
  rwa [show AK2 [xterm] 0=0 from by decide+kernel] at h
 ·haveI:RdC G H' va (vrs []):=⟨fun w hw=>h4.here w (hh w hw)⟩
  have h:=Aj2 G H' [] va 0 vc rfl rfl (by decide)
  rwa [show AG9 []=(e0,0) from by decide+kernel] at h
theorem Ay6 (G:Ctx) (H:List Ent) (cr:Bool) (zp:ByteArray) (za zb:Int) (zi zg zt:ByteArray) (S N K:List Value) [hS:Len S 33] [hN:Len N 520] [hK:Len K 38] (na:Option Addr) (nn nc:Nat) (va:Option Addr) (vn vc:Nat) (buf:ByteArray) (ed:Bool) (l L:List Value) [h1:RdC G H na l] [h2:RdC G H va L]
 (hl:l.length=nn * 1) (hl1:l.all (·.oneCell')=true) (hL:L.length=vn * 4) (hL1:L.all (·.oneCell')=true) (hnn:nn≤100000000) (hvn:vn≤100000000) (R:List Value→List Ent→Prop) (hR:∀S' E,R S' E→S'.length=33∧S'.all (·.oneCell')=true) (hN1:N.all (·.oneCell')=true) (hK1:K.all (·.oneCell')=true) (hS1:S.all (·.oneCell')=true)
 (cS:∀H':List Ent,(∀w,Holds G H' w→Holds G H w)→SC Tryz.prog G 56 [.agg S.toArray] H' fun v H''=>∃S' E,v= .agg S'.toArray∧H''=E++H'∧R S' E):
 SC Tryz.prog G 43 [.agg (wkG cr zp za zb zi zg zt S N [.slice na nn nc,.int .i64 0,.slice va vn vc] K (cliX buf ed)).toArray] H fun v H'=>∃S' E a1 c1 a2 c2,v= .agg (wkG cr zp za zb zi zg zt S' N [.slice a1 nn c1,.int .i64 0,.slice a2 vn c2] K (cliX buf ed)).toArray∧R S' E∧
  H'= .own 142 4 a2 vn c2 L:: .own 9 1 a1 nn c1 l::(E++H):=by
 have cC1:=fun (H:List Ent) [RdC G H na l]=>Aw7 G H na nn nc hl hl1 hnn
 have cC2:=fun (H:List Ent) [RdC G H va L]=>At8 G H va vn vc hL hL1 hvn
 have hlen:=fun (S a b:List Value) (hS:Len S 33) (ha:a.length=3) (hb:b.length=7)=>AD3 (cr:=cr) (zp:=zp) (za:=za) (zb:=zb) (zi:=zi) (zg:=zg) (zt:=zt) (S:=S) (N:=N) (K:=K) (P:=a) (E:=b) (k:=613) ha hb rfl
 have hone:∀(S a b:List Value),S.all (·.oneCell')=true→a.all (·.oneCell')=true→b.all (·.oneCell')=true→(wkG cr zp za zb zi zg zt S N a K b).all (·.oneCell')=true:=fun S a b hS ha hb=>x9 rfl hS (x9 rfl hN1 (x9 ha hK1 hb))
 refine Z0 Tryz.func43 O O O O O ?_
 repeat' (first|(apply E8;first|(apply A8;refine A9 ?_)|(apply F5;refine F8 O O ?_;refine O9 (AI2 O) O ?_)|(apply G6;refine G7 (D8 O O) O ?_)|(apply H5;refine c_call O O O (cS _ J3) O O ?_;rintro _ _ ⟨S',E,rfl,rfl,hRS⟩)|(apply H8;(obtain⟨hS',hS1'⟩:=hR _ _ hRS;haveI:Len S' 33:=⟨hS'⟩;refine AF4 (off:=12) O O O O hS1' hS' (by rw[hlen _ _ _ hS rfl rfl];decide) (AI1 (m:=33) O hS') O ?_))|(apply K6;refine L9 O O O O O O (fun _=>?_))|(apply O6;refine Q4 O O O O (fun _=>?_)))|(apply D6)|((fail_if_success (refine J5 (id:=2) ?_));apply A7)|(apply C9))
 rename_i b1 b2
 have hS':Len S' 33:=inferInstance
 have hS1':=(hR _ _ hRS).2
 refine y5 (α:=(Option Addr×Nat)×Option Addr×Nat) (fun _=>[(1,.pointer (some ⟨b1,0,none⟩)),(2,.pointer (some ⟨b2,0,none⟩))])
  (fun g=> .blk b1 56 (big (cliG cr zp za zb zi zg zt) S' (big [] N (big [.slice g.1.1 nn g.1.2,.int .i64 0,.slice g.2.1 vn g.2.2] K (cliX buf ed)))):: .own 142 4 g.2.1 vn g.2.2 L:: .own 9 1 g.1.1 nn g.1.2 l::(E++ .blk b2 56 cliZ::H)) (fun _=>True) ?_ ?_
 ·repeat' (first|(apply E8;first|(apply A8;refine A9 ?_)|(apply F5;refine F8 O O ?_;refine F4 (o5 O (o5 O (BG8 O))) ?_)|(apply H5;first|(refine c_call O O O (cC1 _) O O ?_;rintro _ _ ⟨a1,c1,rfl,rfl⟩)|(refine c_call O O O (cC2 _) O O ?_;rintro _ _ ⟨a2,c2,rfl,rfl⟩))|(apply H8;refine AE9 O O O O O (AF1 O (AF1 O (Bx1 O))) (by rw[hlen _ _ _ (by assumption) rfl rfl];decide) O ?_))|(apply Q0;refine N8 (k:=0) J3 ?_)|(apply U3;first|(refine L8 O ?_)|(refine O4 O O O O (by kernel_rfl) (by decide+kernel) (by decide+kernel) ?_;apply M3;first|refine G9 (D8 O O) ?_ |refine G9 (AB5 O O) ?_)|(refine O5 O ?_)|(refine N9 (by decide+kernel) ?_)|(refine Q6 (by kernel_rfl) ?_))|(apply V3;first|(refine Q5 O)|(refine U1 (by decide+kernel) ?_)|(refine Q3 O ?_ ?_))|(refine J5 (id:=2) ?_;refine q8 (b:=b1) ?_))
  all_goals exact J6 ((a1,c1),a2,c2) trivial Q7 J3
 rintro ⟨⟨a1,c1⟩,a2,c2⟩-
 have hz:cliZ.length=613:=by unfold cliZ;exact AG5 (m:=520) (by rw[show (big [Value.slice none 0 0,.int .i64 0,.slice none 0 0] keyZ cliE).length=48 from AG5 (m:=38) rfl];rfl)
 have hw:=hlen S' [.slice a1 nn c1,.int .i64 0,.slice a2 vn c2] (cliX buf ed) hS' rfl rfl
 have hw1:=hone S' [.slice a1 nn c1,.int .i64 0,.slice a2 vn c2] (cliX buf ed) hS1' rfl rfl
 repeat' (first|(apply E8;first|(apply A8;refine A9 ?_)|(apply F5;refine F8 O O ?_;refine M5 (by rw[hw];rfl) ?_)|(apply H8;refine y8 O O O O hw1 hw hz O ?_))|(apply D6)|(apply I4)|(apply A7)|(apply C9))
 refine AB4 (.own 142 4 a2 vn c2 L:: .own 9 1 a1 nn c1 l::(E++H)) (.inr O) O hw O (fun _ hh=>hh.sub (List.Sublist.cons _ (List.Sublist.cons _ (List.Sublist.refl _)))) ?_
 exact⟨S',E,a1,c1,a2,c2,O,hRS,O⟩
theorem Af8 (G:Ctx) (H:List Ent) (cr:Bool) (zp:ByteArray) (za zb:Int) (zi zg zt:ByteArray) (s:Scr) (f:OkS s) (S P N K:List Value) [hN:Len N 520] [hK:Len K 38] (h:CliS G H s S P) (buf:ByteArray) (ed:Bool) (hN1:N.all (·.oneCell')=true) (hK1:K.all (·.oneCell')=true):
 SC Tryz.prog G 43 [.agg (wkG cr zp za zb zi zg zt S N P K (cliX buf ed)).toArray] H fun v H'=>∃S' P' E,v= .agg (wkG cr zp za zb zi zg zt S' N P' K (cliX buf ed)).toArray∧H'=E++H∧CliS G E s S' P':=by
 obtain⟨h1,na,nc,va,vc,rfl,h2,h3,h4⟩:=h
 haveI:Len S 33:=⟨h1.len⟩
 have h:=Ay6 G H cr zp za zb zi zg zt S N K na 1 nc va 0 vc buf ed (strs [xterm]) (vrs []) rfl rfl rfl rfl (by decide) (by decide) (fun S' E=>ScS G E s S') (fun S' E hh=>⟨hh.len,hh.one⟩) hN1 hK1 h1.one (fun H' hh=>Bk1 G H' s f S (h1.mono hh))
 refine AA7 h fun v H'=>?_
 rintro ⟨S',E,a1,c1,a2,c2,rfl,hS,rfl⟩
 exact⟨S',_,.own 142 4 a2 0 c2 (vrs []):: .own 9 1 a1 1 c1 (strs [xterm])::E,O,O,hS.mono (fun w hw=>hw.sub (List.Sublist.cons _ (List.Sublist.cons _ (List.Sublist.refl E)))),a1,c1,a2,c2,O,inferInstance,inferInstance,inferInstance⟩
end
instance paDec:DecidableEq Pa:=
 @instDecidableEqProd _ _ inferInstance (@instDecidableEqProd _ _ inferInstance (@instDecidableEqProd _ _ inferInstance (@instDecidableEqProd _ _ inferInstance (@instDecidableEqProd _ _ inferInstance inferInstance))))
theorem Bz0:keysE (kSet fun _=>true)=0:=by decide+kernel
theorem Ar2 {g:UInt8→List UInt8}:∀(l:List UInt8),(∀b∈l,g b=[b])→l.flatMap g=l
 | [],_=>rfl
 | b::l,h=>by
   rw[List.flatMap_cons,h b List.mem_cons_self,Ar2 l fun x hx=>h x (List.mem_cons_of_mem _ hx)]
   rfl
theorem Ay3 (l:List UInt8):strOfNums (p9 l)=⟨l.toArray⟩:=by
 unfold strOfNums p9
 rw[List.map_map]
 congr 2
 refine(List.map_congr_left fun b _=>?_).trans (List.map_id _)
 simp
section
attribute [local irreducible] SW SL SQ AtQ SV SC BB LD PK Yields SO SOT SOA SY SP SPT SPA
instance :ZeroT Tryz.prog 42 (List.replicate 256 (.int .u8 0)):=⟨_,show still Tryz.prog (zeroValue 42)=some (.agg (List.replicate 256 (.int .u8 0)).toArray) by kernel_rfl,.agg _⟩
instance :ZeroT Tryz.prog 44 (List.replicate 512 (Value.int .u8 0)++List.replicate 8 (Value.int .u64 0)):=⟨_,show still Tryz.prog (zeroValue 44)=some (.agg (List.replicate 512 (Value.int .u8 0)++List.replicate 8 (Value.int .u64 0)).toArray) by kernel_rfl,.agg _⟩
instance :OffsT Tryz.prog 220 (AI5 2 256) (List.replicate 512 (.int .u8 0)):=⟨fun i=>some (i * 256,256),fun _=>by kernel_rfl,AJ7 2 256⟩
end
section
attribute [local irreducible] SW SL SQ AtQ SV SC BB LD PK Yields SO SOT SOA SY SP SPT SPA negC
theorem B58 (W:List Int) (hW:W.length=512) (j:Nat) (hj:j<2):take? ((octs ((W.drop 0).take 256)++octs ((W.drop 256).take 256)).drop ((j:Int).toNat * 256)) 256=some (octs ((W.drop (256 * j)).take 256)):=by
 rw[Int.toNat_natCast,AT3 _ _ (by simp [octs,hW];omega)]
 rcases (show j=0∨j=1 by omega) with rfl|rfl
 ·rw[Nat.zero_mul,List.drop_zero,List.take_append_of_le_length (by simp [octs,hW])]
  simp [octs,List.map_take,List.take_take]
 ·rw[Nat.one_mul,List.drop_append_of_le_length (by simp [octs,hW]),List.drop_eq_nil_of_le (by simp [octs,hW]),List.nil_append,List.take_of_length_le (by simp [octs,hW])]
theorem B69 (W:List Int) (hW:W.length=512) (j i:Nat) (hj:j<2) (hi:i<256):(octs ((W.drop (256 * j)).take 256))[(i:Int).toNat]? =some (.int .u8 (W.getD (256 * j+i) 0)):=by
 rw[Int.toNat_natCast,AZ1 _ _ (by simp [hW];omega)]
 simp only[List.getD_eq_getElem?_getD,List.getElem?_take_of_lt hi,List.getElem?_drop]
theorem B49 (W:List Int) (j:Nat):(octs ((W.drop (256 * j)).take 256)).all (·.oneCell')=true:=A11 _
theorem CB8 (W:List Int) (hW:W.length=512) (j:Nat) (hj:j<2):Nat.beq (octs ((W.drop (256 * j)).take 256)).length 256=true:=by
 rw[AC7,List.length_take,List.length_drop,hW,show min 256 (512-256 * j)=256 from by omega];rfl
theorem BD1 (G:Ctx) (H:List Ent) (W X:List Int) (hW:W.length=512) (hX:X.length=8) (hO:∀x∈W,Oct x):SV Tryz.prog G 71 [negV W X] H (.int .i64 (negE W)):=by
 have p0:=A31 X hW 0 (by omega)
 have p1:=A31 X hW 256 (by omega)
 have ck:=fun H s b hb=>BP4 G H s b hb
 refine P8 Tryz.func71 O O O O O ?_
 repeat' (first|(apply E8;first|(apply A8;refine A9 ?_)|(apply C8;refine D7 O O ?_)|(apply F5;refine F8 O O ?_;first|refine O9 p0 O ?_ |refine O9 p1 O ?_)|(apply D5;refine D9 O O ?_)|(apply G6;refine G7 (D8 O O) O ?_)|(apply U0;refine U6 (Q9 O O (CE4 O O (by omega) (by simp) (by simp [octs,hW]) (by simp [octs,hW]))) O ?_)|(apply K6;refine L9 O O O O O O (fun _=>?_)))|(apply D6)|(apply F3)|(apply A7)|(apply C9))
 have hpj:=B58 W hW
 have hij:=B69 W hW
 have hbj:=CB8 W hW
 have Hbj:=Lib.hid hbj
 have hoc:=fun k=>Bd6 hO k
 have Hpj:=Lib.hid hpj
 have Hij:=Lib.hid hij
 have Hoc:=Lib.hid hoc
 clear hpj hij hbj hoc hO p0 p1 hW hX
 generalize hR:octs ((W.drop 0).take 256)++octs ((W.drop 256).take 256)=R at *
 clear hR
 refine R7 (α:=Nat) (fun j=>[(11,.agg R.toArray),(12,.int .i64 j)]) (fun _=>H)
  (fun j=>j≤2∧∀i,i<256 * j→0≤W.getD i 0∧W.getD i 0≤5) (fun j=>2-j) 0 ⟨Nat.zero_le _,fun i hi=>absurd hi (Nat.not_lt_zero _)⟩ Q7 J3 ?_
 rintro j ⟨hj,hs⟩
 by_cases hlt:(j:Int)<2
 ·have hp:=Hpj.out j (by omega)
  have Hs:=Lib.hid hs
  clear hs
  have hb:=Hbj.out j (by omega)
  have ho1:=B49 W j
  have hij:=fun i h=>Hij.out j i (by omega) h
  have Hij2:=Lib.hid hij
  clear hij
  generalize octs ((W.drop (256 * j)).take 256)=L at *
  repeat' (first|(apply E8;first|(apply A8;refine A9 ?_)|(apply C8;refine D7 O O ?_)|(apply E5;refine F7 O O O ?_;refine F9 O ?_)|(apply F5;refine F8 O O ?_;refine M5 hb ?_)|(apply V5;refine Y5 (BA8 O O O (by omega) (by omega) hp) O ?_)|(apply H8;refine Q8 O O O O (by assumption) hb (by decide) O ?_)|(apply O6;refine Q4 O O O O (fun _=>?_)))|(apply D6)|(apply G8)|(apply F3)|(apply A7)|(refine G5 O ?_;apply E9<;>intro hq<;>(try (exfalso;omega)))|(apply C9))
  refine R7 (α:=Nat) (fun i=>[(11,.agg R.toArray),(12,.int .i64 j),(15,.agg L.toArray),(16,.int .i64 i)]) (fun _=>H)
   (fun i=>i≤256∧∀k,k<256 * j+i→0≤W.getD k 0∧W.getD k 0≤5) (fun i=>256-i) 0 ⟨Nat.zero_le _,fun k hk=>Hs.out k (by omega)⟩ Q7 J3 ?_
  rintro i ⟨hi,hs2⟩
  have Hs2:=Lib.hid hs2
  clear hs2
  by_cases hlt2:(i:Int)<256
  ·have hv:=Hij2.out i (by omega)
   have ho:=Hoc.out (256 * j+i)
   obtain⟨ho1,ho2⟩:=ho
   generalize hx:W.getD (256 * j+i) 0=x at *
   by_cases hk:0≤x∧x≤5
   ·have c:=fun H=>ck H x true (by simpa using hk)
    repeat' (first|(apply E8;first|(apply A8;refine A9 ?_)|(apply C8;refine D7 O O ?_)|(apply E5;refine F7 O O O ?_;first|(apply K9;refine L6 ⟨by omega,by omega⟩ ?_)|refine F9 O ?_)|(apply D5;refine D9 O O ?_)|(apply X5;refine Z9 (Z8 O O O) O ?_)|(apply AA3;refine AA8 (AC1 (k:= .i64) O O ⟨by omega,by omega⟩) O ?_)|(apply V5;refine Y5 (AN1 O O O (by omega) (by omega) hv) O ?_)|(apply H5;refine H6 O O O (c _) O O ?_))|(apply D6)|(apply G8)|(apply F3)|(apply A7)|(refine G5 O ?_;first|(apply H7)|(apply E9<;>intro hq<;>(try (exfalso;omega))))|(apply C9)|(apply H9))
    refine J6 (i+1) ⟨⟨by omega,fun k hk2=>?_⟩,by omega⟩ Q7 J3
    rcases Nat.lt_or_ge k (256 * j+i) with h|h
    ·exact Hs2.out k h
    ·obtain rfl:k=256 * j+i:=by omega
     rw[hx];exact hk
   ·have c:=fun H=>ck H x false (by simpa using hk)
    repeat' (first|(apply E8;first|(apply A8;refine A9 ?_)|(apply C8;refine D7 O O ?_)|(apply E5;refine F7 O O O ?_;refine F9 O ?_)|(apply D5;refine D9 O O ?_)|(apply X5;refine Z9 (Z8 O O O) O ?_)|(apply AA3;refine AA8 (AC1 (k:= .i64) O O ⟨by omega,by omega⟩) O ?_)|(apply V5;refine Y5 (AN1 O O O (by omega) (by omega) hv) O ?_)|(apply H5;refine H6 O O O (c _) O O ?_))|(apply D6)|(apply G8)|(apply I4)|(apply F3)|(apply A7)|(refine G5 O ?_;first|(apply I1)|(apply E9<;>intro hq<;>(try (exfalso;omega))))|(apply C9)|(apply J8)|(apply U5))
    refine N7 (by (exact .inr O)) O O0 ?_
    rw[Bg1 (256 * j+i) (by omega) (by rw[hx];exact hk)];rfl
  ·obtain rfl:i=256:=by omega
   repeat' (first|(apply E8;first|(apply A8;refine A9 ?_)|(apply C8;refine D7 O O ?_)|(apply E5;refine F7 O O O ?_;first|(apply K9;refine L6 ⟨by omega,by omega⟩ ?_)|refine F9 O ?_))|(apply D6)|(apply O7)|(apply A7)|(refine G5 O ?_;apply H7)|(apply C9)|(apply K3)|(apply H9)|(apply K4))
   exact J6 (j+1) ⟨⟨by omega,fun k hk=>Hs2.out k (by omega)⟩,by omega⟩ Q7 J3
 ·obtain rfl:j=2:=by omega
  repeat' (first|(apply E8;first|(apply A8;refine A9 ?_)|(apply E5;refine F7 O O O ?_;refine F9 O ?_)|(apply D5;refine D9 O O ?_))|(apply D6)|(apply I4)|(apply O7)|(apply A7)|(refine G5 O ?_;apply H7)|(apply C9)|(apply K3)|(apply K4))
  refine N7 (by (exact .inr O)) O O0 ?_
  rw[Bv5 hs];rfl
end
section
attribute [local irreducible] SW SL SQ AtQ SV SC BB LD PK Yields SO SOT SOA SY SP SPT SPA
theorem Bt6 {P:Program} {t:TypeId} {x y:Operand} {K:Value→Prop} {a b:ByteArray} (h:a=b) (hk:K (.bool true)):BB P .eql t x y (.string a) (.string b) K:=AB9 (by rw[decide_eq_true h];exact hk)
end
def nW0:List Int:=List.replicate 512 0
def nW1:List Int:=(List.replicate 512 0).set 34 1
theorem AJ0:nW0.length=512:=by simp [nW0]
theorem B81:negE nW0=0:=by decide+kernel
theorem Bq1:nW0.getD 31 0=0∧nW0.getD 0 0=0∧nW1.getD 31 0=0∧nW1.getD 34 0=1∧nW1.getD 257 0=0∧nW1.getD 0 0=0:=by decide+kernel
theorem B68:(∀x∈nW0,Oct x)∧∀x∈nW1,Oct x:=by
 have key:(∀x∈nW0,0≤x∧x≤255)∧∀x∈nW1,0≤x∧x≤255:=by decide+kernel
 exact key
section
attribute [local irreducible] SW SL SQ AtQ SV SC BB LD PK Yields SO SOT SOA SY SP SPT SPA negC
abbrev kAll:List Int:=kSet fun _=>true
instance psDec:DecidableEq Ps:=
 @instDecidableEqProd _ _ inferInstance (@instDecidableEqProd _ _ inferInstance (@instDecidableEqProd _ _ inferInstance (@instDecidableEqProd _ _ inferInstance inferInstance)))
end
def wireT (a:ByteArray):ByteArray:=escS (strOfNums (p9 (a.data.toList.flatMap outB)))
def sayT (sent a:ByteArray):ByteArray:=if 0<a.size then sent++wireT a else sent
theorem Ae9 (a:ByteArray):(strOfNums (p9 (a.data.toList.flatMap outB))).size≤2 * a.size:=by
 have h:=A55 a.data.toList
 rw[Aa2]
 unfold p9
 rw[List.length_map]
 exact h
theorem AP6 (a:ByteArray):(wireT a).size≤4 * a.size:=by
 have h1:=Ae9 a
 have h2:=Bj0 (strOfNums (p9 (a.data.toList.flatMap outB))).data.toList
 unfold wireT escS
 show (AV9 _).length≤_
 have h3:(strOfNums (p9 (a.data.toList.flatMap outB))).data.toList.length=(strOfNums (p9 (a.data.toList.flatMap outB))).size:=rfl
 omega
theorem BU5 (sent a:ByteArray):(sayT sent a).size≤sent.size+4 * a.size:=by
 have h:=AP6 a
 unfold sayT
 split
 ·rw[ByteArray.size_append];omega
 ·omega
section
attribute [local irreducible] SW SL SQ AtQ SV SC BB LD PK Yields SO SOT SOA SY SP SPT SPA negC
theorem BR0 (G:Ctx) (hP:∀H,AB2 G H) (H:List Ent) (M:Int) (hM:∀H w,Holds G H w→w.cell? ⟨2,0,none⟩=some (.int .i64 M)) (s:Scr) (f:OkS s) (S:List Value) (h:ScS G H s S) (L:List Int) (ha:(runP w9 L).2.length≤10000) (ao:Option Addr) (n co:Nat) [h4:RdC G H ao (ints L)] (hn:n=L.length) (hmn:n≤4000000):
 SC Tryz.prog G 13 [.agg S.toArray,.slice ao n co] H fun v H'=>∃S' E,v= .tuple #[.agg S'.toArray,.string (sentA s (runP w9 L).2),.int .i64 0]∧H'=E++H∧ScS G E (runA s (runP w9 L).2) S':=by
 obtain⟨ga,gn,gc,oa,on,oc,pa,pn,pc,X,rfl,hS⟩:=h
 refine AA7 (A29 G hP H M hM s f X ga gn gc oa on oc pa pn pc hS L ha A01 ao n co hn hmn) fun v H'=>?_
 rintro ⟨ga2,gn2,gc2,oa2,on2,oc2,pa2,pn2,pc2,X2,E,rfl,rfl,hS2⟩
 exact⟨_,E,O,O,ga2,gn2,gc2,oa2,on2,oc2,pa2,pn2,pc2,X2,O,hS2⟩
theorem Bn9 (G:Ctx) (hP:∀H,AB2 G H) (H:List Ent) (s:Scr) (f:OkS s) (S:List Value) (h:ScS G H s S) (A:List Ac) (hA:A.length≤10000) (hg:∀y∈A,actIn (plA y)) (hr0:∀y∈A,Sl ints G H y.2.2.2.2.1) (aa:Option Addr) (ac:Nat) [h4:RdC G H aa (acs A)]:
 SC Tryz.prog G 31 [.agg S.toArray,.slice aa A.length ac] H fun v H'=>∃S' E,v= .tuple #[.agg S'.toArray,.string (sentA s (A.map plA)),.int .i64 0]∧H'=E++H∧ScS G E (runA s (A.map plA)) S':=by
 obtain⟨ga,gn,gc,oa,on,oc,pa,pn,pc,X,rfl,hS⟩:=h
 refine AA7 (BG4 G hP H s f X ga gn gc oa on oc pa pn pc hS A hA hg hr0 aa ac) fun v H'=>?_
 rintro ⟨ga2,gn2,gc2,oa2,on2,oc2,pa2,pn2,pc2,X2,E,rfl,rfl,hS2⟩
 exact⟨_,E,O,O,ga2,gn2,gc2,oa2,on2,oc2,pa2,pn2,pc2,X2,O,hS2⟩
theorem BI4 (G:Ctx) (H:List Ent) (cr:Bool) (zp:ByteArray) (za zb:Int) (zi zg zt:ByteArray) (wb:Nat) (S N P K E:List Value) [hS:Len S 33] [hN:Len N 520] [hb:HasBlk H wb 135 (wkG cr zp za zb zi zg zt S N P K E)] (opt:Int) (ho:0≤opt∧opt≤255) (u:Int) (hu:N[256+opt.toNat]? =some (.int .u8 u)) (b:Bool) (hub:(u==1)=b):SV Tryz.prog G 134 [.pointer (some ⟨wb,0,none⟩),.int .i64 opt] H (.bool b):=by
 have hv:(wkG cr zp za zb zi zg zt S N P K E)[301+opt.toNat * 1]? =some (.int .u8 u):=by
  refine o5 (m:=33) (Nat.ble_eq_true_of_le (by show 45≤_;omega)) ?_
  refine AN0 (Nat.zero_le _) ?_
  rw[show 301+opt.toNat * 1-((cliG cr zp za zb zi zg zt).length+33)-([]:List Value).length=256+opt.toNat from by show 301+opt.toNat * 1-45-0=_;omega]
  exact hu
 generalize wkG cr zp za zb zi zg zt S N P K E=cs at *
 refine R3 Tryz.func134 O O O O O ?_
 repeat' (first|(apply E8;first|(apply A8;refine A9 ?_)|(apply C8;refine D7 O O ?_)|(apply E5;refine F7 O O O ?_;refine F9 O ?_)|(apply F5;refine F8 O O ?_;refine F4 hv ?_)|(apply D5;refine D9 O O ?_)|(apply G6;first|refine G7 (D8 O O) O ?_ |refine G7 (AB5 O O) O ?_)|(apply M4;refine M8 (l7 O O O (by omega) (by omega)) O ?_)|(apply I9;refine J7 (F6 O O) O ?_))|(apply D6)|(apply I4)|(apply A7)|(apply C9))
 refine N7 (by (exact .inr O)) O O0 ?_
 exact congrArg Value.bool hub
theorem B88 (G:Ctx) (H:List Ent) (cr:Bool) (zp:ByteArray) (za zb:Int) (zi zg zt:ByteArray) (wb:Nat) (S N P K E:List Value) [hS:Len S 33] [hN:Len N 520] [hb:HasBlk H wb 135 (wkG cr zp za zb zi zg zt S N P K E)] (opt:Int) (ho:0≤opt∧opt≤255) (u:Int) (hu:N[opt.toNat]? =some (.int .u8 u)) (b:Bool) (hub:(u==1)=b):SV Tryz.prog G 80 [.pointer (some ⟨wb,0,none⟩),.int .i64 opt] H (.bool b):=by
 have hv:(wkG cr zp za zb zi zg zt S N P K E)[45+opt.toNat * 1]? =some (.int .u8 u):=by
  refine o5 (m:=33) (Nat.ble_eq_true_of_le (by show 45≤_;omega)) ?_
  refine AN0 (Nat.zero_le _) ?_
  rw[show 45+opt.toNat * 1-((cliG cr zp za zb zi zg zt).length+33)-([]:List Value).length=opt.toNat from by show 45+opt.toNat * 1-45-0=_;omega]
  exact hu
 generalize wkG cr zp za zb zi zg zt S N P K E=cs at *
 refine R3 Tryz.func80 O O O O O ?_
 repeat' (first|(apply E8;first|(apply A8;refine A9 ?_)|(apply C8;refine D7 O O ?_)|(apply E5;refine F7 O O O ?_;refine F9 O ?_)|(apply F5;refine F8 O O ?_;refine F4 hv ?_)|(apply D5;refine D9 O O ?_)|(apply G6;first|refine G7 (D8 O O) O ?_ |refine G7 (AB5 O O) O ?_)|(apply M4;refine M8 (l7 O O O (by omega) (by omega)) O ?_)|(apply I9;refine J7 (F6 O O) O ?_))|(apply D6)|(apply I4)|(apply A7)|(apply C9))
 refine N7 (by (exact .inr O)) O O0 ?_
 exact congrArg Value.bool hub
theorem A64 (G:Ctx) (H:List Ent) (cr:Bool) (zp:ByteArray) (za zb:Int) (zi zg zt:ByteArray) (M:Int) (hM:∀H w,Holds G H w→w.cell? ⟨2,0,none⟩=some (.int .i64 M)) (wb:Nat) (S N:List Value) (p0 p1 p2:Value) (K:List Value) [hS:Len S 33] [hN:Len N 520] [hK:Len K 38] (buf:ByteArray) (ed:Bool) (sent:ByteArray) (u:Int) (hu:N[0]? =some (.int .u8 u)) (hub:(u==1)=false)
 (d d1 d2:ByteArray) (hd:d.size≤1048576) (h1:strOfNums (p9 (d.data.toList.flatMap outB))=d1) (hd1:d1.size≤4000000) (h2:escS d1=d2) (hz:sent.size≤4000000) (hz2:d2.size≤8000000):
 SC Tryz.prog G 78 [.pointer (some ⟨wb,0,none⟩),.string d] (.blk wb 135 (wkG cr zp za zb zi zg zt S N [p0,p1,p2] K (cliW buf ed sent))::H) fun v H'=>v=resV []∧H'= .blk wb 135 (wkG cr zp za zb zi zg zt S N [p0,p1,p2] K (cliW buf ed (sent++d2)))::H:=by
 have cU:=fun (H:List Ent) [HasBlk H wb 135 (wkG cr zp za zb zi zg zt S N [p0,p1,p2] K (cliW buf ed sent))]=>B88 G H cr zp za zb zi zg zt wb S N [p0,p1,p2] K (cliW buf ed sent) 0 (by decide) u hu false hub
 have cO:=fun H=>Ay2 G H d hd
 have cE:=fun H=>Bb7 G H M (hM H) d1 hd1
 rw[h1] at cO
 rw[h2] at cE
 have hlen:=AD3 (cr:=cr) (zp:=zp) (za:=za) (zb:=zb) (zi:=zi) (zg:=zg) (zt:=zt) (S:=S) (N:=N) (K:=K) (P:=[p0,p1,p2]) (E:=cliW buf ed sent) (k:=614) rfl rfl rfl
 refine I7 Tryz.func78 O O O O O ?_
 repeat' (first|(apply E8;first|(apply A8;refine A9 ?_)|(apply F5;refine F8 O O ?_;refine F4 (o5 O (o5 O (o5 O O))) ?_)|(apply H5;first|refine H6 O O O (cU _) O O ?_ |refine H6 O O O (cO _) O O ?_ |refine H6 O O O (cE _) O O ?_)|(apply H8;refine AE9 O O O O O (AF1 O (AF1 O (Be7 O O))) (by rw[hlen];decide) O ?_))|(apply Q0;refine N8 (k:=0) J3 ?_)|(apply U3;first|(refine L8 O ?_)|(refine O4 O O O O (by kernel_rfl) (by decide+kernel) (by decide+kernel) ?_;first|(apply O1;refine G9 (P9 O O) ?_)|(apply AG6;refine AG7 O O ?_;refine AN9 (by omega) ?_)|(apply M3;refine G9 (D8 O O) ?_)|(apply R5;refine G9 (F6 O O) ?_))|(refine O5 O ?_)|(refine N9 (by decide+kernel) ?_)|(refine Q6 (by kernel_rfl) ?_))|(apply V3;first|(refine Q5 O)|(refine U1 (by decide+kernel) ?_)|(refine Q3 O ?_ ?_))|(refine J5 (id:=0) ?_;refine q8 (b:=wb) ?_))
 all_goals
  refine I8 _ (by (exact .inl O)) O (fun _ hw=>hw) ?_
  exact⟨O,O⟩
theorem BB9 (G:Ctx) (hP:∀H,AB2 G H) (H:List Ent) (cr:Bool) (zp:ByteArray) (za zb:Int) (zi zg zt:ByteArray) (M:Int) (hM:∀H w,Holds G H w→w.cell? ⟨2,0,none⟩=some (.int .i64 M)) (hT:∀H w,Holds G H w→Lib.Utf8Tabs 0 1 w)
 (s:Scr) (f:OkS s) (wb:Nat) (S N:List Value) (p0 p1 p2:Value) (K:List Value) [hN:Len N 520] [hK:Len K 38] (buf:ByteArray) (ed:Bool) (sent:ByteArray) (h:ScS G H s S)
 (d d1:ByteArray) (hd:d.size≤4000) (h1:(⟨(d.data.toList.flatMap (fun b=>if b=13 then [13,10] else [b])).toArray⟩:ByteArray)=d1) (hd1:d1.size≤8000) (r:ByteArray) (L:List Int) (e:Int) (hf:feedU ⟨#[]⟩ d1=(r,L,e)) (hL:L.length≤100000) (ha:(runP w9 L).2.length≤10000):
 SC Tryz.prog G 135 [.pointer (some ⟨wb,0,none⟩),.string d] (.blk wb 135 (wkG cr zp za zb zi zg zt S N [p0,p1,p2] K (cliW buf ed sent))::H) fun v H'=>∃S' E,v=resV []∧H'= .blk wb 135 (wkG cr zp za zb zi zg zt S' N [p0,p1,p2] K (cliW buf ed sent))::(E++H)∧ScS G E (runA s (runP w9 L).2) S':=by
 haveI hS:Len S 33:=⟨h.len⟩
 have cR:∀H',SV Tryz.prog G 40 [.string d,.string ⟨#[13]⟩,.string ⟨#[13,10]⟩] H' (.string d1):=fun H'=>by
  have h:=Ap3 G H' M (hM H') d (by omega) 13 [13,10] (by decide) (by decide)
  rw[h1] at h
  exact h
 have cF:=fun H=>Aq7 G H hT ⟨#[]⟩ d1 (by decide) (by omega)
 rw[hf] at cF
 dsimp only at cF
 have cW:=fun (H':List Ent) (hh:∀w,Holds G H' w→Holds G H w) (ao:Option Addr) (co:Nat) (h4:RdC G H' ao (ints L))=>BR0 G hP H' M hM s f S (h.mono hh) L ha ao L.length co rfl (by omega)
 have hlen:=AD3 (cr:=cr) (zp:=zp) (za:=za) (zb:=zb) (zi:=zi) (zg:=zg) (zt:=zt) (S:=S) (N:=N) (K:=K) (P:=[p0,p1,p2]) (E:=cliW buf ed sent) (k:=614) rfl rfl rfl
 clear hM hT
 refine I7 Tryz.func135 O O O O O ?_
 repeat' (first|(apply E8;first|(apply A8;refine A9 ?_)|(apply C8;refine D7 O O ?_)|(apply F5;refine F8 O O ?_;refine O9 (AI2 O) O ?_)|(apply D5;refine D9 O O ?_)|(apply G6;refine G7 (D8 O O) O ?_)|(apply U7;refine X7 (M0 O O O) O ?_)|(apply I9;refine J7 (F6 O O) O ?_)|(apply H5;first|refine H6 O O O (cR _) O O ?_ |(refine c_call O O O (cF _) O O ?_;rintro _ _ ⟨ao,co,rfl,rfl⟩)|(refine c_call O O O (cW _ J3 _ _ inferInstance) O O ?_;rintro _ _ ⟨S',E,rfl,rfl,hS2⟩;(have hl2:=hS2.len);(have ho2:=hS2.one)))|(apply H8;refine AF4 (off:=12) O O O O ho2 hl2 (by rw[hlen];decide) (AI1 (m:=33) O hl2) O ?_))|(apply D6)|(apply A7)|(apply C9))
 refine I8 _ (by (exact .inl O)) O (fun _ hw=>hw) ?_
 exact⟨S',E++[.own 3 1 ao L.length co (ints L)],O,by simp,hS2.mono (fun w hw=>hw.sub (List.sublist_append_left E _))⟩
theorem Bn3 (G:Ctx) (hP10:∀H,AB2 G H) (H:List Ent) (M:Int) (hM:∀H w,Holds G H w→w.cell? ⟨2,0,none⟩=some (.int .i64 M)) (hT:∀H w,Holds G H w→Lib.Utf8Tabs 0 1 w)
 (cr:Bool) (zp:ByteArray) (za zb:Int) (zi zg zt:ByteArray) (hzp:zp.size≤1000000) (hzq:okP (za,zb,zi,zg,zt))
 (s:Scr) (f:OkS s) (wb:Nat) (S N:List Value) (p0 p1 p2:Value) (K:List Value) [hN:Len N 520] [hK:Len K 38] (buf:ByteArray) (ed:Bool) (sent:ByteArray) (hse:sent.size≤4000000) (u0:Int) (hu0:N[0]? =some (.int .u8 u0)) (hu0':(u0==1)=false) (hzt:zt.size≤256) (h:ScS G H s S) (h0:Int) (hh0:N[256]? =some (.int .u8 h0)) (hh0':(h0==1)=false)
 (d:ByteArray) (hd:d.size≤1000000) (cy:Bool) (d2:ByteArray) (hd2:d2.size≤1000000) (hi1:(mIn cr d.data.toList).1=cy) (hi2:strOfNums (p9 (mIn cr d.data.toList).2)=d2)
 (yp:ByteArray) (L:List Int) (e:Int) (hf:feedU zp d2=(yp,L,e)) (hL:L.length≤4000000) (ya yb:Int) (yi yg yt:ByteArray) (B:List Pa) (hP:runP (za,zb,zi,zg,zt) L=((ya,yb,yi,yg,yt),B)) (hB:B.length≤10000):
 SC Tryz.prog G 130 [.pointer (some ⟨wb,0,none⟩),.string d] (.blk wb 135 (wkG cr zp za zb zi zg zt S N [p0,p1,p2] K (cliW buf ed sent))::H) fun v H'=>∃S' E,v=resV []∧H'= .blk wb 135 (wkG cy yp ya yb yi yg yt S' N [p0,p1,p2] K (cliW buf ed (sayT sent (sentA s B))))::(E++H)∧ScS G E (runA s B) S':=by
 haveI hS:Len S 33:=⟨h.len⟩
 have cI:∀H',SV Tryz.prog G 10 [.bool cr,.string d,.bool false] H' (.tuple #[.bool cy,.string d2]):=fun H'=>by
  have h:=A61 G H' cr d (by omega)
  rwa [hi1,hi2] at h
 have cF:=fun H=>Aq7 G H hT zp d2 (by omega) (by omega)
 rw[hf] at cF
 dsimp only at cF
 have cP:=fun (H':List Ent) (ao:Option Addr) (co:Nat) (h4:RdC G H' ao (ints L))=>A38 G H' M hM za zb zi zg zt hzq L ao L.length co rfl hL
 unfold RunR at cP
 rw[hP] at cP
 dsimp only at cP
 have hin:=(AY6 (za,zb,zi,zg,zt) L hzt).1
 rw[hP] at hin
 have hans:(sentA s B).size≤500000:=by
  have:=AT9 B f fun y hy=>(hin y hy).1
  omega
 have cR:=fun (H':List Ent) (hh:∀w,Holds G H' w→Holds G H w) (A:List Ac) (hA:A.map plA=B) (hr0:∀y∈A,Sl ints G H' y.2.2.2.2.1) (aa:Option Addr) (ac:Nat) (h4:RdC G H' aa (acs A))=>Bn9 G hP10 H' s f S (h.mono hh) A (by rw[←hA,List.length_map] at hB;exact hB) (fun y hy=>hin _ (by rw[←hA];exact List.mem_map_of_mem hy)) hr0 aa ac
 have cX:=fun (S':List Value) (hS':Len S' 33) (H:List Ent)=>A64 G H cy yp ya yb yi yg yt M hM wb S' N p0 p1 p2 K buf ed sent u0 hu0 hu0' (sentA s B) _ _ (by omega) rfl (by have:=Ae9 (sentA s B);omega) rfl hse (by have:=AP6 (sentA s B);unfold wireT at this;omega)
 have cH:=fun (E1:List Value) (H:List Ent) [HasBlk H wb 135 (wkG cr zp za zb zi zg zt S N [p0,p1,p2] K (cliW buf ed sent))]=>BI4 G H cr zp za zb zi zg zt wb S N [p0,p1,p2] K (cliW buf ed sent) 0 (by decide) h0 hh0 false hh0'
 have hlen:=fun (cr:Bool) (zp:ByteArray) (za zb:Int) (zi zg zt:ByteArray)=>AD3 (cr:=cr) (zp:=zp) (za:=za) (zb:=zb) (zi:=zi) (zg:=zg) (zt:=zt) (S:=S) (N:=N) (K:=K) (P:=[p0,p1,p2]) (E:=cliW buf ed sent) (k:=614) rfl rfl rfl
 clear hM hT hf hi1 hi2 hP hL hzp hzq hh0 hh0'
 refine I7 Tryz.func130 O O O O O ?_
 repeat' (apply D6)
 refine y5 (α:=Unit) (fun _=>[(0,.pointer (some ⟨wb,0,none⟩)),(1,.string d2)])
  (fun _=> .blk wb 135 (wkG cy zp za zb zi zg zt S N [p0,p1,p2] K (cliW buf ed sent))::H) (fun _=>True) ?_ ?_
 ·repeat' (first|(apply E8;first|(apply A8;refine A9 ?_)|(apply F5;refine F8 O O ?_;refine F4 O ?_)|(apply H5;first|refine H6 O O O (cH [] _) O O ?_ |refine H6 O O O (cI _) O O ?_)|(apply H8;refine M9 O O O O O O O ?_))|(apply Q0;refine N8 (k:=0) J3 ?_)|(apply U3;first|(refine L8 O ?_)|(refine O4 O O O O (by kernel_rfl) (by decide+kernel) (by decide+kernel) ?_;first|(apply O1;refine G9 (P9 O O) ?_)|(apply AA4;refine G9 (o6 O O) ?_)|(apply M3;refine G9 (D8 O O) ?_)|(apply AG3;refine G9 (M0 O O O) ?_)|(apply R5;refine G9 (F6 O O) ?_))|(refine O5 O ?_)|(refine N9 (by decide+kernel) ?_)|(refine Q6 (by kernel_rfl) ?_))|(apply V3;first|(refine Q5 O)|(refine U1 (by decide+kernel) ?_)|(refine Q3 O ?_ ?_))|(refine J5 (id:=0) ?_;refine q8 (b:=wb) ?_))
  all_goals exact J6 () trivial Q7 J3
 rintro ⟨⟩-
 repeat' (first|(apply E8;first|(apply A8;refine A9 ?_)|(apply C8;refine D7 O O ?_)|(apply F5;refine F8 O O ?_;refine F4 O ?_)|(apply D5;refine D9 O O ?_)|(apply G6;refine G7 (D8 O O) O ?_)|(apply U7;refine X7 (M0 O O O) O ?_)|(apply I9;refine J7 (F6 O O) O ?_)|(apply H5;refine c_call O O O (cF _) O O ?_;rintro _ _ ⟨ao,co,rfl,rfl⟩)|(apply H8;refine M9 O O O O O O O ?_))|(apply D6)|((fail_if_success (refine J5 (id:=4) ?_));apply A7)|(apply C9))
 refine Z5 (.blk wb 135 (wkG cy yp za zb zi zg zt S N [p0,p1,p2] K (cliW buf ed sent)):: .own 3 1 ao L.length co (ints L)::H) (fun _ hw=>hw) ?_
 repeat' (first|(apply E8;first|(apply A8;refine A9 ?_)|(apply C8;refine D7 O O ?_)|(apply F5;refine F8 O O ?_;refine O9 (AZ9 O) O ?_)|(apply D5;refine D9 O O ?_)|(apply G6;refine G7 (D8 O O) O ?_)|(apply U7;refine X7 (M0 O O O) O ?_)|(apply I9;refine J7 (F6 O O) O ?_)|(apply H5;refine c_call O O O (cP _ _ _ inferInstance) O O ?_;rintro _ _ ⟨F,A,aa,ac,rfl,hlA,hA,hsl,hs2,rfl⟩)|(apply H8;refine AF4 (off:=7) (vs:=[.int .i64 ya,.int .i64 yb,.string yi,.string yg,.string yt]) O O O O O O (by rw[hlen];exact Nat.le_of_ble_eq_true O) (Am5 O (List.cons_ne_nil _ _)) O ?_))|(apply D6)|((fail_if_success (refine J5 (id:=6) ?_));apply A7)|(apply C9))
 refine Z5 (.blk wb 135 (wkG cy yp ya yb yi yg yt S N [p0,p1,p2] K (cliW buf ed sent))::(F++(.own 3 1 ao L.length co (ints L)::H))) (fun _ hw=>hw) ?_
 have hi:RdC G (.blk wb 135 (wkG cy yp ya yb yi yg yt S N [p0,p1,p2] K (cliW buf ed sent))::(F++(.own 3 1 ao L.length co (ints L)::H))) aa (acs A):=⟨fun w hw=>hs2.rd.here w (hw.sub (.cons _ (List.sublist_append_left F _)))⟩
 have hsl2:∀y∈A,Sl ints G (.blk wb 135 (wkG cy yp ya yb yi yg yt S N [p0,p1,p2] K (cliW buf ed sent))::(F++(.own 3 1 ao L.length co (ints L)::H))) y.2.2.2.2.1:=fun y hy=>(hsl y hy).mono (fun w hw=>hw.sub (.cons _ (List.sublist_append_left F _)))
 have hH:∀w,Holds G (.blk wb 135 (wkG cy yp ya yb yi yg yt S N [p0,p1,p2] K (cliW buf ed sent))::(F++(.own 3 1 ao L.length co (ints L)::H))) w→Holds G H w:=fun w hw=>hw.sub (.cons _ ((List.sublist_cons_self _ _).trans (List.sublist_append_right F _)))
 clear cP cF
 subst hA
 have hAns:∀S':List Value,wireT (sentA s (A.map plA))=escS (strOfNums (p9 ((sentA s (A.map plA)).data.toList.flatMap outB))):=fun _=>rfl
 unfold sayT
 repeat' (first|(apply E8;first|(apply A8;refine A9 ?_)|(apply C8;refine D7 O O ?_)|(apply F5;refine F8 O O ?_;refine O9 (AI2 O) O ?_)|(apply D5;refine D9 O O ?_)|(apply G6;refine G7 (D8 O O) O ?_)|(apply U7;refine X7 (M0 O O O) O ?_)|(apply I9;refine J7 (F6 O O) O ?_)|(apply H5;refine c_call O O O (cR _ hH A O hsl2 aa ac hi) O O ?_;rintro _ _ ⟨S',E,rfl,rfl,hS2⟩;(have hl2:=hS2.len);(have ho2:=hS2.one))|(apply H8;refine AF4 (off:=12) O O O O ho2 hl2 (by rw[hlen];exact Nat.le_of_ble_eq_true O) (AI1 (m:=33) O hl2) O ?_))|(apply D6)|((fail_if_success (refine J5 (id:=7) ?_));apply A7)|(apply C9))
 have hl3:Len S' 33:=⟨hl2⟩
 have cX:=cX S' hl3
 rw[←hAns []] at cX
 generalize wireT (sentA s (A.map plA))=wt at *
 generalize hqq:sentA s (A.map plA)=ans at *
 by_cases hz:0<ans.size
 ·rw[if_pos hz]
  repeat' (first|(apply E8;first|(apply A8;refine A9 ?_)|(apply C8;refine D7 O O ?_)|(apply E5;refine F7 O O O ?_;refine As3 ?_)|(apply H5;refine c_call O O O (AJ8 (tb:=wb) (cX _)) O O ?_;rintro _ _ ⟨rfl,rfl⟩))|(apply A7)|(refine G5 O ?_;apply E9<;>intro hq<;>(try (exfalso;omega)))|(apply C9))
  refine I8 _ (by (exact .inl O)) O (fun _ hw=>hw) ?_
  exact⟨S',E++F++[.own 3 1 ao L.length co (ints L)],O,by simp,hS2.mono (fun w hw=>hw.sub ((List.sublist_append_left E F).trans (List.sublist_append_left _ _)))⟩
 ·rw[if_neg hz]
  repeat' (first|(apply E8;first|(apply A8;refine A9 ?_)|(apply C8;refine D7 O O ?_)|(apply E5;refine F7 O O O ?_;refine As3 ?_))|(apply G8)|(apply A7)|(refine G5 O ?_;apply E9<;>intro hq<;>(try (exfalso;omega)))|(apply C9))
  refine I8 _ (by (exact .inl O)) O (fun _ hw=>hw) ?_
  exact⟨S',E++F++[.own 3 1 ao L.length co (ints L)],O,by simp,hS2.mono (fun w hw=>hw.sub ((List.sublist_append_left E F).trans (List.sublist_append_left _ _)))⟩
abbrev z8:List Int:=[0,0,0,0,0,0,0,0]
theorem BR4:nW0.getD 256 0=0∧nW0.getD 257 0=0:=by decide+kernel
end
theorem Br9 {P:Program} {G:Ctx} {H:List Ent} {g:FuncId} {args:List Value} {R R':Value→List Ent→Prop} (h:SC P G g args H R) (hi:∀v H' w,R v H'→Holds G H' w→R' v H'):SC P G g args H R':=⟨h.1,fun w hw=>(h.2 w hw).mono fun _ w' ⟨v,H',h1,h2,h3⟩=>⟨v,H',h1,h2,hi v H' w' h3 h2⟩⟩
section
attribute [local irreducible] SW SL SQ AtQ SV SC BB LD PK Yields SO SOT SOA SY SP SPT SPA negC
theorem Aq2 (G:Ctx) (H:List Ent) (d:ByteArray):SV Tryz.prog G 19 [.string d] H (.agg (evC 1 d 0 0).toArray):=by
 refine P8 Tryz.func19 O O O O O ?_
 repeat' (first|(apply E8;first|(apply A8;refine A9 ?_)|(apply C8;refine D7 O O ?_)|(apply U0;refine U6 (Q9 O O O) O ?_)|(apply H8;refine Q8 O O O O O O O O ?_)|(apply O6;refine Q4 O O O O (fun _=>?_)))|(apply D6)|(apply I4)|(apply A7)|(apply C9))
 refine AB4 (H) (by (exact .inr O)) O (by (rfl)) O J3 ?_
 exact⟨O,O⟩
theorem CliS.cells {G:Ctx} {E:List Ent} {s:Scr} {S P:List Value} (h:CliS G E s S P) (N K:List Value) [hN:Len N 520] [hK:Len K 38] (hN1:N.all (·.oneCell')=true) (hK1:K.all (·.oneCell')=true) (buf:ByteArray) (ed:Bool):(wkC S N P K (cliX buf ed)).length=613∧(wkC S N P K (cliX buf ed)).all (·.oneCell')=true:=by
 haveI:Len S 33:=⟨h.1.len⟩
 have hlP:P.length=3:=by obtain⟨_,_,_,_,h,-⟩:=h.2;rw[h];rfl
 have hP1:P.all (·.oneCell')=true:=by obtain⟨_,_,_,_,h,-⟩:=h.2;rw[h];rfl
 exact⟨CA1 hlP O O,x9 O h.1.one (x9 O hN1 (x9 hP1 hK1 O))⟩
theorem AW7 (G:Ctx) (H:List Ent) (w h:Nat) (hw:1≤w∧w≤160) (hh:1≤h∧h≤60) (x:Nat→Int):
 SC Tryz.prog G 5 [.int .i64 w,.int .i64 h,.agg (endsL x).toArray] H fun v H'=>∃S P E,v= .tuple #[.agg (wkC S (negC nW0 (endsX x)) P (octs kAll) (cliX ⟨#[]⟩ false)).toArray,.int .i64 0]∧H'=E++H∧CliS G E (newS w h) S P:=by
 haveI:Len (negC nW0 (endsX x)) 520:=⟨AL9 AJ0 rfl⟩
 haveI:Len (octs kAll) 38:=⟨by rw[AC7];exact AB7 _⟩
 have hz:=AD0
 have hcn:(newS w h).C.length=w * h:=by show (List.replicate _ _).length=_;rw[List.length_replicate]
 have hdn:(newS w h).D.length=w * h:=by show (List.replicate _ _).length=_;rw[List.length_replicate]
 have hE:∀(ga oa:Option Addr) (oc:Nat) (na:Option Addr) (nc:Nat) (xa:Option Addr) (xc:Nat),w * h≤oc→CliS G [.own 142 4 xa 0 xc (vrs []),.own 9 1 na 1 nc (strs [xterm]),.own 97 4 oa (w * h) oc (qds (newS w h).D),.own 97 4 ga (w * h) (w * h) (qds (newS w h).C)] (newS w h) (scnC (newS w h) ga (w * h) (w * h) oa (w * h) oc none 0 0) (cliP na 1 nc 0 xa 0 xc):=by
  intro ga oa oc na nc xa xc ho
  refine⟨⟨ga,w * h,w * h,oa,w * h,oc,none,0,0,[],O,⟨inferInstance,inferInstance,⟨fun w _=>At.nil w none⟩,fun _ hx=>(nomatch hx),O,hcn.symm,hdn.symm,O,Nat.le_refl _,ho⟩⟩,na,nc,xa,xc,O,inferInstance,inferInstance,inferInstance⟩
 have hnew:∀(S:List Value) (na:Option Addr) (nc:Nat) (xa:Option Addr) (xc:Nat),newC S x na 1 nc xa 0 xc=wkC S (negC nW0 (endsX x)) (cliP na 1 nc 0 xa 0 xc) (octs kAll) (cliX ⟨#[]⟩ false):=fun S na nc xa xc=>by
  unfold newC wkC nW0
  rw[show cliE=cliX ⟨#[]⟩ false from rfl]
  unfold big
  rw[List.append_assoc,List.nil_append]
 have cN0:=fun (H:List Ent) (a:Option Addr) (c:Nat) (h1:RdC G H a [.string ⟨#[88,84,69,82,77]⟩]) (h2:RdC G H none (vrs []))=>BS2 (h1:=h1) G H w h hw hh [xterm] a 1 c [] none 0 0 x rfl (fun y hy=>by rw[List.mem_singleton] at hy;subst hy;decide) (by decide) rfl (by decide) (by decide+kernel) (by decide+kernel)
  (fun H a c _ _=>by
    have h:=Ad2 G H [xterm] a 1 c 0 rfl (fun y hy=>by rw[List.mem_singleton] at hy;subst hy;decide) (by decide)
    exact h)
  (fun H _=>Aj2 G H [] none 0 0 rfl rfl (by decide))
 have cN:∀(H:List Ent) (a:Option Addr) (c:Nat),RdC G H a [.string ⟨#[88,84,69,82,77]⟩]→RdC G H none (vrs [])→SC Tryz.prog G 21 [.int .i64 w,.int .i64 h,.slice a 1 c,.slice none 0 0,.agg (endsL x).toArray] H fun v H'=>∃S P E,v= .tuple #[.agg (wkC S (negC nW0 (endsX x)) P (octs kAll) (cliX ⟨#[]⟩ false)).toArray,.int .i64 0]∧H'=E++H∧CliS G E (newS w h) S P:=fun H a c h1 h2=>Br9 (cN0 H a c h1 h2) (by
  rintro v H' w0 ⟨ga,oa,oc,na,nc,xa,xc,rfl,rfl⟩ hw0
  have hoc:w * h≤oc:=(CA5 (G:=G) (e:=97) (sz:=4) (xs:=qds (newS w h).D) (H:= .own 97 4 ga (w * h) (w * h) (qds (newS w h).C)::H)).here w0 hw0.drop.drop
  exact⟨_,_,_,by rw[hnew],rfl,hE ga oa oc na nc xa xc hoc⟩)
 clear cN0 hE hnew
 refine U4 Tryz.func5 O O O O O ?_
 repeat' (first|(apply E8;first|(apply A8;refine A9 ?_)|(apply D5;refine D9 O O ?_)|(apply K6;refine L9 O O O O O O (fun _=>?_))|(apply O6;refine Q4 O O O O (fun _=>?_)))|(apply D6)|((fail_if_success (refine J5 (id:=1) ?_));apply A7)|(apply C9))
 haveI hv0:∀H,RdC G H none (vrs []):=fun H=>⟨fun _ _=> .inl rfl⟩
 clear hcn hdn
 generalize newS w h=s0 at *
 rename_i b5 b6
 repeat' (first|(apply E8;first|(apply A8;refine A9 ?_)|(apply C8;refine D7 O O ?_)|(apply F5;refine F8 O O ?_;refine M5 O ?_)|(apply D5;refine D9 O O ?_)|(apply U7;refine X7 (M0 O O O) O ?_)|(apply H5;refine c_call O O O (cN _ _ _ inferInstance (hv0 _)) O O ?_;rintro _ _ ⟨S,P,E,rfl,rfl,hE1⟩;(obtain⟨hl,ho⟩:=hE1.cells (negC nW0 (endsX x)) (octs kAll) (AF6 _ _) (AM2 _) ⟨#[]⟩ false);(generalize hC:wkC S (negC nW0 (endsX x)) P (octs kAll) (cliX ⟨#[]⟩ false)=C at *))|(apply H8;refine y8 O O O O ho hl hz O ?_)|(apply j3;refine R8 O O O O O O O O O O (fun _=>?_)))|(apply I4)|(apply A7)|(apply C9))
 refine AB4 (E++H) (by (exact .inr O)) O hl O (fun _ hw=>hw.sub (by repeat (first|exact List.Sublist.refl _|refine List.Sublist.append (List.Sublist.refl _) ?_ |refine List.Sublist.cons _ ?_))) ⟨S,P,E,by rw[hC];rfl,rfl,hE1⟩
end
end Go.Proofs.YtmmnimagbnlcmaaGreatDoor
