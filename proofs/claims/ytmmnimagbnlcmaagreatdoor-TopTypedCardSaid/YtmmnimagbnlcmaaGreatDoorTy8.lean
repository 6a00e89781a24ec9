/- Texts of this claim, merged: Grid23 SanQ Trm2 Page Page2 Trm3 Par1 Trm4 Trm5 Chk2 Chk3 Ans Arg IndexByte Par2 Runes Runes2 Encode. -/
import Derived.Test.YtmmnimagbnlcmaaGreatDoorTy7
import Derived.WalkKit
import Derived.WalkSpells
import Derived.WalkLawsBesides
import Derived.Handy
import Derived.Lib.Hide
import Derived.Laws.BitsAllLaws
import Derived.Deep.MidRow
import Derived.Deep.WholeRow
import Derived.BigQuiet
import Derived.Laws.CopyOwn
import Derived.Deep.QuietTactic
import Derived.Laws.AppendOwnNone
import Derived.Laws.MakeOwn
import Derived.Laws.IdiomStrings
import Derived.OrdersHeld
import Derived.Lib.SliceRun
import Derived.ChangeKeysEq
import Derived.Laws.CopyRow
import Derived.Test.YtmmnimagbnlcmaaGreatDoorRows
import Derived.Lib.AppendStr
import Derived.ArgAppend
import Derived.StillTailTactics
import Derived.RegionTactic
import Derived.ChangeAlike
import Derived.Laws.RangeAny
import Derived.Maps.RangeRun
import Derived.Lib.Replace
import Derived.Lib.Join
import Derived.Lib.IndexLaws
import Derived.Lib.IndexMore
import Derived.Lib.SplitLaws
import Derived.Shelf.Strings.Builder1
import Derived.Shelf.Strings.Builder2
import Derived.Shelf.Strings.OnBuilder
import Derived.Shelf.Strings.Trim
import Derived.Shelf.Small.Utf8
import Derived.Shelf.Small.Strs
import Derived.Shelf.Strings.BuilderF
import Derived.Shelf.Strconv.Itoa0
import Derived.Shelf.Strconv.Itoa1
import Derived.Shelf.LaysM
import Derived.Shelf.Strconv.Itoa2
import Derived.Shelf.Strconv.Itoa3
import Derived.Shelf.Strings.Search1
import Derived.Shelf.Strings.Search2
import Derived.Shelf.Strings.Search3
import Derived.Shelf.Strings.Count
import Derived.Shelf.Strings.Shaped
import Derived.Shelf.Strings.LastIndex
import Derived.Shelf.Strings.Prefix
import Derived.Shelf.Strings.Split
import Derived.Shelf.Strings.Replace
import Derived.Shelf.Strings.SplitShaped
import Derived.Shelf.Strings.Runes
import Derived.Shelf.Strings.AsciiSet
import Derived.Shelf.Bits.Mul64
import Derived.Shelf.Strings.Repeat
import Derived.Shelf.Unicode.DecodeSlow
import Derived.Shelf.Unicode.DecodeAny
import Derived.Shelf.Unicode.ValidAny
import Derived.Test.YtmmnimagbnlcmaaGreatDoorProg
import Derived.Lib.Bytealg
set_option maxRecDepth 100000
set_option maxHeartbeats 8000000
open Go Go.RowKit Go.Fw Go.Sx
namespace Go.Sx
instance (priority:=low) CE7 {A H H':List Ent} {a:Option Addr} {e:TypeId} {sz n c:Nat} {xs:List Value} [h:PickOwn H a e sz n c xs H']:PickOwn (A++H) a e sz n c xs (A++H'):=⟨h.here.app A⟩
end Go.Sx
namespace Go.Fw
theorem Bi4 {L:List (List Qd)} {k w:Nat} {R:List Qd} (hL:∀r∈L,r.length=w) (hk:k<L.length) (hR:R.length=w):over (qds L.flatten) (k * w * 4) (qds R)=qds (L.set k R).flatten:=by
 have hA:=Av4 hL (k:=k) (by omega)
 have hLk:(L[k]).length=w:=hL _ (List.getElem_mem hk)
 rw[Ac7,Ao5 (List.getElem?_eq_getElem hk),Bd1 _ hk,hR]
 generalize (L.take k).flatten=A at *
 generalize (L.drop (k+1)).flatten=S
 generalize L[k]=B at *
 congr 1
 have t1:(A++B++S).take (k * w)=A:=by rw[List.append_assoc,←hA,List.take_left]
 have t2:(A++B++S).drop (k * w+w)=S:=by
  rw[List.append_assoc,←List.drop_drop,←hA,List.drop_left,←hLk,List.drop_left]
 rw[t1,t2]
theorem AZ8 {α:Type} {d:α} {L:List α} {f t:Nat} {g:Nat→α} {Pr:α→Prop} (h1:∀x∈L,Pr x) (h2:∀i,i<L.length→Pr (g i)):∀x∈genL d L f t g,Pr x:=fun x hx=>by
 obtain⟨i,hi,rfl⟩:=List.mem_map.1 hx
 have hi:=List.mem_range.1 hi
 by_cases h:f≤i∧i<t
 ·rw[if_pos h];exact h2 i hi
 ·rw[if_neg h]
  exact h1 _ (List.mem_of_getElem? (getD_some d hi))
theorem Ar9 {α:Type} {d:α} {L:List α} {f t:Nat} {n:Int} {q:α} {Pr:α→Prop} (h1:∀x∈L,Pr x) (h2:Pr q) (ht:t≤L.length):∀i,Pr (shG d L f t n q i):=fun i=>by
 unfold shG
 by_cases h:(f:Int)≤(i:Int)-n∧(i:Int)-n<t
 ·rw[if_pos h]
  exact h1 _ (List.mem_of_getElem? (getD_some d (by omega)))
 ·rw[if_neg h];exact h2
end Go.Fw
namespace Go.Proofs.YtmmnimagbnlcmaaGreatDoor
section
attribute [local irreducible] SW SL SQ AtQ SV SC BB LD PK Yields SO SOT SOA SY SP SPT SPA
def rowsL (C:List Qd) (w h:Nat):List (List Qd):=(List.range h).map (rowQ w C)
theorem AS2 (C:List Qd) (w h:Nat):(rowsL C w h).length=h:=by simp [rowsL]
theorem B32 {C:List Qd} {w h:Nat} (hC:C.length=w * h):∀r∈rowsL C w h,r.length=w:=fun r hr=>by
 obtain⟨k,hk,rfl⟩:=List.mem_map.1 hr
 exact j6 (List.mem_range.1 hk) hC
theorem BL2 {C:List Qd} {w h:Nat} (hC:C.length=w * h):(rowsL C w h).flatten=C:=by
 have key:∀m,m≤h→((List.range m).map (rowQ w C)).flatten=C.take (m * w):=by
  intro m
  induction m with
  | zero=>intro _;simp
  | succ m ih=>
    intro hm
    rw[List.range_succ,List.map_append,List.flatten_append,ih (by omega),Nat.succ_mul,List.take_add]
    simp [rowQ]
 unfold rowsL
 rw[key h (Nat.le_refl _),List.take_of_length_le (by rw[hC,Nat.mul_comm];exact Nat.le_refl _)]
theorem BA0 {C:List Qd} {w h f t:Nat} (hft:f≤t) (ht:t≤h):((rowsL C w h).drop f).take (t-f)=(List.range (t-f)).map fun i=>rowQ w C (f+i):=by
 apply List.ext_getElem?
 intro i
 rcases Nat.lt_or_ge i (t-f) with hi|hi
 ·rw[List.getElem?_take_of_lt hi,List.getElem?_drop,rowsL,List.getElem?_map,List.getElem?_range (by omega),List.getElem?_map,List.getElem?_range hi]
  rfl
 ·rw[List.getElem?_eq_none (by simp;omega),List.getElem?_eq_none (by simp;omega)]
def scrR (C:List Qd) (w h f t:Nat) (s:Int) (q:Qd):List (List Qd):=genL [] (rowsL C w h) f t (shG [] (rowsL C w h) f t (-s) (List.replicate w q))
def scrC (C:List Qd) (w h f t:Nat) (s:Int) (q:Qd):List Qd:=(scrR C w h f t s q).flatten
theorem B85 (G:Ctx) (H:List Ent) (C:List Qd) (b w h n c k:Nat) (hC:C.length=w * h) (hw:1≤w) (hk:k<h):RdC G (.own 97 4 (some ⟨b,0,none⟩) n c (qds C)::H) (some ⟨b,k * w * 4,none⟩) (qds (rowQ w C k)):=by
 have hr:=AM6 (w:=w) (h:=h) (k:=k) (n:=C.length) hk hC
 have hl:=j6 hk hC
 have e:qds C=qds (C.take (k * w))++qds (rowQ w C k)++qds (C.drop (k * w+w)):=Bw0 C (k * w) w
 rw[e]
 exact Af2 (Ad9 (G:=G) (e:=97) (sz:=4) (len:=n) (c:=c) (b:=b) (us:=[]) (H:=H) (k * w * 4) (by rw[X6,List.length_take];omega) (by rw[X6,hl];omega))
theorem AO0 (G:Ctx) (H:List Ent) (C:List Qd) (b w h n c f t:Nat) (s x y z:Int) (hn:n=C.length) (hC:C.length=w * h) (hm:n≤100000) (hnc:n≤c) (hw:1≤w∧w≤160) (hh:h≤60) (hft:f≤t) (ht:t≤h) (hs: -16383≤s∧s≤16383):SC Tryz.prog G 208 [gridV w h (some ⟨b,0,none⟩) n c,.int .i64 f,.int .i64 t,.int .i64 s,penV x y z] (.own 97 4 (some ⟨b,0,none⟩) n c (qds C)::H) fun v H'=>v= .tuple #[]∧H'= .own 97 4 (some ⟨b,0,none⟩) n c (qds (scrC C w h f t s (32,x,y,z)))::H:=by
 have e1:=fun k:Nat=>show (k:Int) * (w:Int)=((k * w:Nat):Int) from by simp
 have e2:=fun k:Nat=>show ((k:Int)+1) * (w:Int)=((k * w+w:Nat):Int) from by rw[Int.add_mul];simp
 have hkW:=fun (k:Nat) (hk:k<h)=>AM6 (w:=w) (h:=h) (k:=k) (n:=n) hk (by omega)
 have cO:=fun (H:List Ent) (k:Nat) (hk:k<h)=>AV3 G H b w h n c k (k * w) (e1 k) (e2 k) hm (hkW k hk) hnc hw.1 (by omega)
 have hrd:=fun (k:Nat) (hk:k<h) (H:List Ent)=>B85 G H C b w h n c k hC hw.1 hk
 have cC:=fun (H:List Ent) (k:Nat) (hk:k<h) (a:Option Addr) (c':Nat) {vs:List Value} [RdC G H a vs] (hv:vs=qds (rowQ w C k))=>AR4 G H (rowQ w C k) a w c' hv (j6 hk hC).symm (by omega)
 have hRl:=fun (k:Nat) (hk:k<h)=>j6 (w:=w) (h:=h) (k:=k) (C:=C) hk hC
 have Hn:=Lib.hid hn
 have HC:=Lib.hid hC
 clear hn hC e1 e2
 refine AR9 Tryz.func208 O O O O O ?_
 repeat' (first|(apply E8;first|(apply A8;refine A9 ?_)|(apply C8;refine D7 O O ?_)|(apply D5;refine D9 O O ?_)|(apply K6;refine L9 O O O O O O (fun _=>?_)))|(apply D6)|(apply F3)|(apply A7)|(apply C9))
 rename_i b5 b9
 refine R7 (α:=List Rw×List Ent×Option Addr×Nat) (fun g=>[(1,.int .i64 f),(2,.int .i64 t),(3,.int .i64 s),(5,.pointer (some ⟨b5,0,none⟩)),(9,.pointer (some ⟨b9,0,none⟩)),(10,.slice g.2.2.1 g.1.length g.2.2.2),(11,.int .i64 ((f+g.1.length:Nat):Int))])
  (fun g=> .own 27 1 g.2.2.1 g.1.length g.2.2.2 (g.1.map rwV):: .own 97 4 (some ⟨b,0,none⟩) n c (qds C):: .blk b9 31 [.int .i64 x,.int .i64 y,.int .i64 z]:: .blk b5 29 [.int .i64 w,.int .i64 h,.slice (some ⟨b,0,none⟩) n c]::(g.2.1++H))
  (fun g=>g.1.length≤t-f∧g.1.map (·.2.2)=(List.range g.1.length).map (fun i=>rowQ w C (f+i))∧RdX qds G (g.2.1++H) g.1) (fun g=>t-f-g.1.length) ([],[],none,0) ⟨Nat.zero_le _,rfl,RdX.nil⟩ Q7 ?_ ?_
 ·exact fun _ hw=>(hw.subs (by repeat (first|refine Subs.cons (by repeat constructor) ?_ |exact Subs.sub O0))).nilrow _ _
 rintro ⟨X,E,ar,cr⟩ ⟨hi,hX,hXr⟩
 dsimp only at hi hX hXr ⊢
 generalize hXl:X.length=i at *
 have hone:=BH8 X
 by_cases hlt:((f+i:Nat):Int)<t
 ·have hk:f+i<h:=by omega
  have cOi:=fun H=>cO H (f+i) hk
  have cCi:=fun (H:List Ent) (a:Option Addr) (c':Nat) {vs:List Value} [RdC G H a vs] (hv:vs=qds (rowQ w C (f+i)))=>cC H (f+i) hk a c' hv
  haveI:=hrd (f+i) hk
  have hRi:=hRl (f+i) hk
  clear cO cC hrd hkW hRl
  generalize hRR:rowQ w C (f+i)=R at *
  generalize hKK:f+i=k at *
  repeat' (first|(apply E8;first|(apply A8;refine A9 ?_)|(apply C8;refine D7 O O ?_)|(apply E5;refine F7 O O O ?_;first|(apply K9;refine L6 ⟨by omega,by omega⟩ ?_)|refine F9 O ?_)|(apply F5;refine F8 O O ?_;refine M5 O ?_)|(apply D5;refine D9 O O ?_)|(apply H5;first|refine H6 O O O (cOi _) O O ?_ |(refine c_call O O O (cCi _ _ _ O) O O ?_;rintro _ _ ⟨a',c',rfl,rfl⟩))|(apply K5;refine U9 O O O O O O (by omega) O O (fun _ _=>?_))|(apply j3;refine R8 O O O O O O O O O O (fun _=>?_)))|(apply D6)|(apply G8)|(apply F3)|(apply A7)|(refine G5 O ?_;apply E9<;>intro hq<;>(try (exfalso;omega)))|(apply C9)|(apply H9))
  rename_i _ a2 c2
  have f1:(X++[((a',c',R):Rw)]).length=i+1:=by rw[List.length_append,hXl];rfl
  have f2:(X++[((a',c',R):Rw)]).map rwV=X.map rwV++[.slice a' w c']:=by
   rw[List.map_append]
   simp only[List.map_cons,List.map_nil,rwV,hRi]
  have f3:(X++[((a',c',R):Rw)]).map (·.2.2)=(List.range (i+1)).map (fun i=>rowQ w C (f+i)):=by
   rw[List.map_append,hX,List.range_succ,List.map_append,List.map_cons,List.map_nil,List.map_cons,List.map_nil,hKK,hRR]
  refine J6 (X++[(a',c',R)],.own 97 4 a' w c' (qds R)::E,a2,c2) ⟨⟨by dsimp only;rw[f1];omega,by dsimp only;rw[f1];exact f3,hXr.cons.snoc (Sl.own List.mem_cons_self O hRi.symm)⟩,by dsimp only;rw[f1];omega⟩ ?_ ?_
  ·dsimp only
   rw[f1]
   exact(by repeat (first|exact Le.nil _|refine Le.cons (by (first|rfl|(exact congrArg some (congrArg (Value.int _) (by omega))))) ?_))
  ·dsimp only
   rw[f1,f2]
   simp only[List.cons_append]
   exact J3
 ·have cM:=fun (H':List Ent) (a:Option Addr) (c':Nat) {vs:List Value} [RdC G H' a vs] (hv:vs=X.map rwV) hF=>Bd9 G H' (E++H) X a i c' (-s) 253 [.pointer (some ⟨b5,0,none⟩),.pointer (some ⟨b9,0,none⟩)] (List.replicate w (32,x,y,z)) w hv hXl.symm (by omega) ⟨by omega,by omega⟩ hXr (by simp) hF
  have hit:i=t-f:=by omega
  have hP:X.map (·.2.2)=((rowsL C w h).drop f).take (t-f):=by rw[hX,BA0 hft ht,hit]
  have hmov:=Ay1 ([]:List Qd) (L:=rowsL C w h) (n:= -s) (q:=List.replicate w (32,x,y,z)) hft (by rw[AS2];exact ht)
  rw[←hP] at hmov
  have hneg:IntKind.i64.wrap (0-s)= -s:=(IntWalk.i64_in (0-s) (by omega)).trans (by omega)
  rw[hmov] at cM
  have hrw:=B32 HC.out
  have hgw:=Ar9 (d:=([]:List Qd)) (f:=f) (n:= -s) (q:=List.replicate w ((32,x,y,z):Qd)) (Pr:=fun r=>r.length=w) hrw (by simp) (show t≤(rowsL C w h).length by rw[AS2];exact ht)
  have hfl0:=BL2 HC.out
  have hLl:=AS2 C w h
  have h0:qds C=qds (genL [] (rowsL C w h) f f (shG [] (rowsL C w h) f t (-s) (List.replicate w (32,x,y,z)))).flatten:=by rw[A47 [] (Nat.le_refl _),hfl0]
  unfold scrC scrR
  generalize shG [] (rowsL C w h) f t (-s) (List.replicate w (32,x,y,z))=g at *
  rw[←hneg] at cM
  clear hrd cC hP hmov hX hneg
  repeat' (first|(apply E8;first|(apply A8;refine A9 ?_)|(apply C8;refine D7 O O ?_)|(apply E5;refine F7 O O O ?_;refine F9 O ?_)|(apply D5;refine D9 O O ?_)|(apply X5;refine Z9 (Z8 O O O) O ?_)|(apply H5;refine c_call O O O (cM _ _ _ O (fun _=>B86 _ _ _ _ _ _ _ _ _ _ _ _ hw)) O O ?_;rintro _ _ ⟨Y,E2,a2,c2,rfl,hYl,hY,hYr,rfl⟩)|(apply K5;refine s_call (S9 O O) O ?_)|(refine A80 (Ap2 O O O) O ?_))|(apply D6)|(apply O7)|(apply F3)|(apply A7)|(refine G5 O ?_;apply E9<;>intro hq<;>(try (exfalso;omega)))|(apply C9)|(apply K3)|(apply K4))
  rw[←hit] at hY
  refine R7 (α:=Nat) (fun j=>[(1,.int .i64 f),(5,.pointer (some ⟨b5,0,none⟩)),(32,.slice a2 i c2),(33,.int .i64 i),(34,.int .i64 j)])
   (fun j=> .own 97 4 (some ⟨b,0,none⟩) n c (qds (genL [] (rowsL C w h) f (f+j) g).flatten):: .own 27 1 a2 i c2 (Y.map rwV):: .blk b5 29 [.int .i64 w,.int .i64 h,.slice (some ⟨b,0,none⟩) n c]::(E2++(E++H)))
   (fun j=>j≤i) (fun j=>i-j) 0 (Nat.zero_le _) Q7 ?_ ?_
  ·rw[h0]
   refine fun _ hw=>?_
   have hw:=hw.sub (List.Sublist.cons_cons _ (List.Sublist.append (List.Sublist.refl E2) (List.Sublist.cons _ (List.Sublist.cons_cons _ (List.Sublist.cons _ (List.Sublist.refl _))))))
   exact hw.perm ((List.Perm.cons _ ((List.perm_middle (l₁:=E2)).trans (List.Perm.cons _ (List.perm_middle (l₁:=E2))))).trans (List.Perm.swap _ _ _))
  intro j hj
  by_cases hlt:(j:Int)<i
  ·have hk:f+j<h:=by omega
   have cOj:=fun H=>cO H (f+j) hk
   simp only[Int.natCast_add] at cOj
   obtain⟨⟨a1,c1,R⟩,hx⟩:=AC3 (X:=Y) (k:=j) (by omega)
   have hR:R=g (f+j):=by
    have h5:=A72 (·.2.2) hx
    rw[hY,List.getElem?_map,List.getElem?_range (by omega),Option.map_some] at h5
    exact(Option.some.inj h5).symm
   have hRw:R.length=w:=by rw[hR];exact hgw _
   have hcell:=BX6 hx
   dsimp only at hcell
   rw[hRw] at hcell
   have hcell':(Y.map rwV)[(j:Int).toNat * 1]? =some (.slice a1 w c1):=by rw[show (j:Int).toNat * 1=j from by omega];exact hcell
   have hlo:(Y.map rwV).length=i * 1:=by simp [hYl]
   haveI hrd0:=(hYr.at hx).rd
   dsimp only at hrd0
   have hql:(qds R).length=w * 4:=by rw[X6,hRw]
   have hone:((qds R).take (w * 4)).all (·.oneCell')=true:=by rw[AM0];exact Ah6 _
   have hov:=Bi4 (L:=genL [] (rowsL C w h) f (f+j) g) (k:=f+j) (w:=w) (R:=R) (AZ8 hrw (fun i _=>hgw i)) (by rw[AC4,hLl];exact hk) hRw
   have hov2:over (qds (genL [] (rowsL C w h) f (f+j) g).flatten) ((f+j) * w * 4) ((qds R).take (w * 4))=qds (genL [] (rowsL C w h) f (f+(j+1)) g).flatten:=by
    rw[List.take_of_length_le (by rw[hql];exact Nat.le_refl _),hov,hR,A49 [] (by omega)]
    rfl
   have hkw:=hkW (f+j) hk
   clear hov hR cO hkW hY hYr hRl
   generalize hKK:f+j=k at *
   repeat' (first|(apply E8;first|(apply A8;refine A9 ?_)|(apply C8;refine D7 O O ?_)|(apply E5;refine F7 O O O ?_;first|(apply K9;refine L6 ⟨by omega,by omega⟩ ?_)|refine F9 O ?_)|(apply F5;first|(refine F8 O O ?_;refine M5 O ?_)|(refine F8 O O ?_;refine X8 hcell' ?_))|(apply D5;refine D9 O O ?_)|(apply M4;refine M8 (K7 O O O hlo (by omega) (by omega)) O ?_)|(apply H5;refine H6 O O O (cOj _) O O ?_)|(apply K5;refine Ag8 (m:=w) O O O O (by omega) (by rw[hql];exact Nat.le_refl _) (by omega) hone O O ?_;rw[hov2]))|(apply D6)|(apply G8)|(apply F3)|(apply A7)|(refine G5 O ?_;apply E9<;>intro hq<;>(try (exfalso;omega)))|(apply C9)|(apply H9))
   exact J6 (j+1) ⟨by omega,by omega⟩ Q7 J3
  ·obtain rfl:j=i:=by omega
   repeat' (first|(apply E8;first|(apply A8;refine A9 ?_)|(apply E5;refine F7 O O O ?_;refine F9 O ?_))|(apply D6)|(apply O7)|(apply A7)|(refine G5 O ?_;apply E9<;>intro hq<;>(try (exfalso;omega)))|(apply C9)|(apply K3)|(apply K4))
   rw[show f+j=t from by omega]
   refine AI9 (_::H) (by (exact .inl O)) O (List.Sublist.cons_cons _ (List.Sublist.cons _ (List.Sublist.cons _ ((List.sublist_append_right E H).trans (List.sublist_append_right E2 _))))) ?_
   exact⟨O,O⟩
end
def rwOk (w:Nat) (r:List Qd):Prop:=r.length=w∧∀i,i<w→AB3 r i=true
theorem BW6 {w k:Nat} {L:List (List Qd)} (hL:∀r∈L,r.length=w) (hk:k<L.length):rowQ w L.flatten k=L[k]:=by
 have hA:=Av4 hL (k:=k) (by omega)
 have hLk:(L[k]).length=w:=hL _ (List.getElem_mem hk)
 unfold rowQ
 rw[Ao5 (List.getElem?_eq_getElem hk),List.append_assoc,←hA,List.drop_left]
 conv=>lhs;rw[←hLk,List.take_left]
theorem GrOk.of_rows {w h:Nat} {L:List (List Qd)} (hs:(1≤w∧w≤160)∧(1≤h∧h≤60)) (hl:L.length=h) (hr:∀r∈L,rwOk w r):GrOk w h L.flatten:=by
 have hL:∀r∈L,r.length=w:=fun r h=>(hr r h).1
 refine⟨hs,by rw[Am2 hL,hl,Nat.mul_comm],fun k hk i hi=>?_⟩
 rw[BW6 hL (by omega)]
 exact(hr _ (List.getElem_mem _)).2 i hi
theorem GrOk.rows {w h:Nat} {C:List Qd} (g:GrOk w h C):∀r∈rowsL C w h,rwOk w r:=fun r hr=>by
 obtain⟨k,hk,rfl⟩:=List.mem_map.1 hr
 have hk:=List.mem_range.1 hk
 exact⟨j6 hk g.len,g.cell k hk⟩
theorem A79 {w:Nat} {x y z:Int} (hp:penB x y z=true):rwOk w (List.replicate w (32,x,y,z)):=by
 refine⟨List.length_replicate,fun i hi=>?_⟩
 have e:(List.replicate w ((32,x,y,z):Qd)).getD i qz=(32,x,y,z):=by
  rw[List.getD_eq_getElem?_getD,List.getElem?_replicate,if_pos hi];rfl
 rw[AT8,e]
 refine⟨(AL5 _).2 ⟨hp,.inr (by show J2 32≠0;rw[w32];decide)⟩,?_⟩
 unfold loneB
 rw[e,if_neg (show ¬(32:Int)=0 by decide),decide_eq_false]
 rintro ⟨h,-⟩
 have h:J2 32=2:=h
 rw[w32] at h
 cases h
theorem GrOk.scroll {w h f t:Nat} {C:List Qd} (g:GrOk w h C) (s x y z:Int) (ht:t≤h) (hp:penB x y z=true):GrOk w h (scrC C w h f t s (32,x,y,z)):=by
 unfold scrC scrR
 refine GrOk.of_rows g.size (by rw[AC4,AS2]) (AZ8 g.rows fun i _=>Ar9 g.rows (A79 hp) (by rw[AS2];exact ht) i)
theorem GrOk.new {w h:Nat} (hs:(1≤w∧w≤160)∧(1≤h∧h≤60)):GrOk w h (List.replicate (w * h) (32,0,0,0)):=by
 have e:((List.replicate h (List.replicate w ((32,0,0,0):Qd))).flatten)=List.replicate (w * h) (32,0,0,0):=by
  rw[List.flatten_replicate_replicate,Nat.mul_comm]
 rw[←e]
 exact GrOk.of_rows hs List.length_replicate fun r hr=>by
  rw[(List.mem_replicate.1 hr).2];exact A79 (by decide+kernel)
def AF8 (p:List (List Qd)) (r:List Qd):List (List Qd):=if 40<(p++[r]).length then (p++[r]).drop 1 else p++[r]
def upR (s:Scr):Scr:={s with late:=false,past:=AF8 s.past (rowQ s.w s.C 0),C:=scrC s.C s.w s.h s.top.toNat s.bot.toNat 1 (32,0,0,s.pb)}
def downS (s:Scr):Scr:={s with late:=false,row:=s.row+1}
section
attribute [local irreducible] SW SL SQ AtQ SV SC BB LD PK Yields SO SOT SOA SY SP SPT SPA
theorem By2 (G:Ctx) (H:List Ent) (C:List Qd) {vs:List Value} (a:Option Addr) (w h n c k:Nat) [h1:RdC G H a vs] (hv:vs=qds C) (hn:n=C.length) (hm:n≤100000) (hnc:n≤c) (hwh:n=w * h) (hw:1≤w∧w≤160) (hk:k<h) (hk2:k≤1000):SC Tryz.prog G 37 [gridV w h a n c,.int .i64 k] H fun v H'=>∃a' c',v= .slice a' w c'∧H'= .own 97 4 a' w c' (qds (rowQ w C k))::H:=by
 subst hv
 have hlen:=j6 (w:=w) (h:=h) (k:=k) (C:=C) hk (by omega)
 have cR:=fun (H:List Ent) {vs:List Value} [RdC G H a vs] (hv:vs=qds C)=>Ao3 G H C a w h n c k hv hn hm hnc hwh hw hk hk2
 have cC:=fun (H:List Ent) (a':Option Addr) (c':Nat) (_:RdC G H a' (qds (rowQ w C k)))=>AR4 G H (rowQ w C k) a' w c' rfl hlen.symm (by omega)
 generalize rowQ w C k=R at *
 clear hn hwh hm
 refine I7 Tryz.func37 O O O O O ?_
 repeat' (first|(apply E8;first|(apply A8;refine A9 ?_)|(apply C8;refine D7 O O ?_)|(apply F5;refine F8 O O ?_;refine M5 O ?_)|(apply D5;refine D9 O O ?_)|(apply H5;first|(refine c_call O O O (cR _ O) O O ?_;rintro _ _ ⟨rfl,a1,c1,rfl,h5,h6⟩)|(refine c_call O O O (cC _ _ _ inferInstance) O O ?_;rintro _ _ ⟨a2,c2,rfl,rfl⟩))|(apply K6;refine L9 O O O O O O (fun _=>?_)))|(apply D6)|(apply I4)|(apply A7)|(apply C9))
 exact I8 (.own 97 4 a2 w c2 (qds R)::H) (by (exact .inr O)) O J3 ⟨_,_,O,O⟩
end
def AR5:List Int:=[160,9670,9618,9225,9228,9229,9226,176,177,9252,9227,9496,9488,9484,9492,9532,9146,9147,9472,9148,9149,9500,9508,9524,9516,9474,8804,8805,960,8800,163,183]
def AH4:Array Value:=(ints AR5).toArray
def AP5:List (Nat×Value):=(ints AR5).zipIdx.map fun (x,i)=>(i,x)
def AD2 (p:Int) (b:Nat):Int:=
 if p=2 then b else if 127<b then 65533 else if p=4∧b=35 then 163 else if p=3∧95≤b∧b≤126 then AR5.getD (b-95) 0 else b
theorem AF0:Tryz.prog.built 332 AP5=some AH4:=by kernel_rfl
theorem AH1:(Tryz.prog.info? 332).map (·.size)=some AH4.size:=by kernel_rfl
theorem AJ3:AH4.all (·.oneCell')=true:=by kernel_rfl
theorem AJ4:AH4.size=32:=rfl
theorem BK1 (k:Nat) (hk:k<32):AH4[k]? =some (.int .i64 (AR5.getD k 0)):=by
 have hl:k<AR5.length:=hk
 unfold AH4 ints
 simp [List.getD,List.getElem?_eq_getElem hl]
theorem Bm2 (b:Nat) (w:World) (_hb:b<256):
 Calls Tryz.prog 206 #[.int .i64 2,.int .u8 b] w fun e w'=>e= .returned (.int .i64 (b))∧Below w.heap.size w w':=by
 have B1:=Lib.hid AF0
 have B2:=Lib.hid AH1
 have B3:=Lib.hid AJ3
 have B4:=Lib.hid AJ4
 generalize AH4=C at *
 have hbl:Below w.heap.size w (w.alloc (.cells C 332)):=(Below.refl _ _).alloc (Nat.le_refl _) _
 go_enter Tryz.func206,Tryz.ntmps206
 go_wp2_with (first|((with_reducible refine AE4 rfl 332 _ rfl AP5 C ?_ B1.out ?_);(focus rfl))|((with_reducible refine x8 rfl 332 _ _ rfl _ w.heap.size _ C rfl ?_ ?_ ?_ B2.out ?_ B3.out ?_);(focus rfl);(focus rfl);(focus rfl);(focus (rw[B4.out];rfl))))
 go_ret
 exact⟨O,hbl⟩
theorem Bc4 (p:Int) (b:Nat) (w:World) (_hb:b<256) (h2:¬p=2) (h:127<b):
 Calls Tryz.prog 206 #[.int .i64 p,.int .u8 b] w fun e w'=>e= .returned (.int .i64 (65533))∧Below w.heap.size w w':=by
 have B1:=Lib.hid AF0
 have B2:=Lib.hid AH1
 have B3:=Lib.hid AJ3
 have B4:=Lib.hid AJ4
 generalize AH4=C at *
 have hbl:Below w.heap.size w (w.alloc (.cells C 332)):=(Below.refl _ _).alloc (Nat.le_refl _) _
 go_enter Tryz.func206,Tryz.ntmps206
 go_wp2_with (first|((with_reducible refine AE4 rfl 332 _ rfl AP5 C ?_ B1.out ?_);(focus rfl))|((with_reducible refine x8 rfl 332 _ _ rfl _ w.heap.size _ C rfl ?_ ?_ ?_ B2.out ?_ B3.out ?_);(focus rfl);(focus rfl);(focus rfl);(focus (rw[B4.out];rfl))))
 go_ret
 exact⟨O,hbl⟩
theorem BM9 (w:World):
 Calls Tryz.prog 206 #[.int .i64 4,.int .u8 35] w fun e w'=>e= .returned (.int .i64 (163))∧Below w.heap.size w w':=by
 have B1:=Lib.hid AF0
 have B2:=Lib.hid AH1
 have B3:=Lib.hid AJ3
 have B4:=Lib.hid AJ4
 generalize AH4=C at *
 have hbl:Below w.heap.size w (w.alloc (.cells C 332)):=(Below.refl _ _).alloc (Nat.le_refl _) _
 go_enter Tryz.func206,Tryz.ntmps206
 go_wp2_with (first|((with_reducible refine AE4 rfl 332 _ rfl AP5 C ?_ B1.out ?_);(focus rfl))|((with_reducible refine x8 rfl 332 _ _ rfl _ w.heap.size _ C rfl ?_ ?_ ?_ B2.out ?_ B3.out ?_);(focus rfl);(focus rfl);(focus rfl);(focus (rw[B4.out];rfl))))
 go_ret
 exact⟨O,hbl⟩
theorem Bk9 (b:Nat) (w:World) (_hb:b<256) (h:¬127<b) (h35:¬b=35):
 Calls Tryz.prog 206 #[.int .i64 4,.int .u8 b] w fun e w'=>e= .returned (.int .i64 (b))∧Below w.heap.size w w':=by
 have B1:=Lib.hid AF0
 have B2:=Lib.hid AH1
 have B3:=Lib.hid AJ3
 have B4:=Lib.hid AJ4
 generalize AH4=C at *
 have hbl:Below w.heap.size w (w.alloc (.cells C 332)):=(Below.refl _ _).alloc (Nat.le_refl _) _
 go_enter Tryz.func206,Tryz.ntmps206
 go_wp2_with (first|((with_reducible refine AE4 rfl 332 _ rfl AP5 C ?_ B1.out ?_);(focus rfl))|((with_reducible refine x8 rfl 332 _ _ rfl _ w.heap.size _ C rfl ?_ ?_ ?_ B2.out ?_ B3.out ?_);(focus rfl);(focus rfl);(focus rfl);(focus (rw[B4.out];rfl))))
 go_ret
 exact⟨O,hbl⟩
theorem Bj7 (b:Nat) (w:World) (h1:95≤b) (h2:b≤126):
 Calls Tryz.prog 206 #[.int .i64 3,.int .u8 b] w fun e w'=>e= .returned (.int .i64 (AR5.getD (b-95) 0))∧Below w.heap.size w w':=by
 have B1:=Lib.hid AF0
 have B2:=Lib.hid AH1
 have B3:=Lib.hid AJ3
 have B4:=Lib.hid AJ4
 have hx:=BK1 (b-95) (by omega)
 generalize AH4=C at *
 have hbl:Below w.heap.size w (w.alloc (.cells C 332)):=(Below.refl _ _).alloc (Nat.le_refl _) _
 obtain⟨x,hX⟩:∃x,x=AR5.getD (b-95) 0:=⟨_,rfl⟩
 rw[←hX] at hx ⊢
 clear hX
 go_enter Tryz.func206,Tryz.ntmps206
 go_wp2_with (first|((with_reducible refine AE4 rfl 332 _ rfl AP5 C ?_ B1.out ?_);(focus rfl))|((with_reducible refine x8 rfl 332 _ _ rfl _ w.heap.size _ C rfl ?_ ?_ ?_ B2.out ?_ B3.out ?_);(focus rfl);(focus rfl);(focus rfl);(focus (rw[B4.out];rfl))))
 go_ret
 exact⟨O,hbl⟩
theorem BI9 (b:Nat) (w:World) (h:b<95):
 Calls Tryz.prog 206 #[.int .i64 3,.int .u8 b] w fun e w'=>e= .returned (.int .i64 (b))∧Below w.heap.size w w':=by
 have B1:=Lib.hid AF0
 have B2:=Lib.hid AH1
 have B3:=Lib.hid AJ3
 have B4:=Lib.hid AJ4
 generalize AH4=C at *
 have hbl:Below w.heap.size w (w.alloc (.cells C 332)):=(Below.refl _ _).alloc (Nat.le_refl _) _
 go_enter Tryz.func206,Tryz.ntmps206
 go_wp2_with (first|((with_reducible refine AE4 rfl 332 _ rfl AP5 C ?_ B1.out ?_);(focus rfl))|((with_reducible refine x8 rfl 332 _ _ rfl _ w.heap.size _ C rfl ?_ ?_ ?_ B2.out ?_ B3.out ?_);(focus rfl);(focus rfl);(focus rfl);(focus (rw[B4.out];rfl))))
 go_ret
 exact⟨O,hbl⟩
theorem BJ7 (b:Nat) (w:World) (h:b=127):
 Calls Tryz.prog 206 #[.int .i64 3,.int .u8 b] w fun e w'=>e= .returned (.int .i64 (b))∧Below w.heap.size w w':=by
 have B1:=Lib.hid AF0
 have B2:=Lib.hid AH1
 have B3:=Lib.hid AJ3
 have B4:=Lib.hid AJ4
 generalize AH4=C at *
 have hbl:Below w.heap.size w (w.alloc (.cells C 332)):=(Below.refl _ _).alloc (Nat.le_refl _) _
 subst h
 go_enter Tryz.func206,Tryz.ntmps206
 go_wp2_with (first|((with_reducible refine AE4 rfl 332 _ rfl AP5 C ?_ B1.out ?_);(focus rfl))|((with_reducible refine x8 rfl 332 _ _ rfl _ w.heap.size _ C rfl ?_ ?_ ?_ B2.out ?_ B3.out ?_);(focus rfl);(focus rfl);(focus rfl);(focus (rw[B4.out];rfl))))
 go_ret
 exact⟨O,hbl⟩
theorem BA9 (p:Int) (b:Nat) (w:World) (_hb:b<256) (h2:¬p=2) (h3:¬p=3) (h4:¬p=4) (h:¬127<b):
 Calls Tryz.prog 206 #[.int .i64 p,.int .u8 b] w fun e w'=>e= .returned (.int .i64 (b))∧Below w.heap.size w w':=by
 have B1:=Lib.hid AF0
 have B2:=Lib.hid AH1
 have B3:=Lib.hid AJ3
 have B4:=Lib.hid AJ4
 generalize AH4=C at *
 have hbl:Below w.heap.size w (w.alloc (.cells C 332)):=(Below.refl _ _).alloc (Nat.le_refl _) _
 go_enter Tryz.func206,Tryz.ntmps206
 go_wp2_with (first|((with_reducible refine AE4 rfl 332 _ rfl AP5 C ?_ B1.out ?_);(focus rfl))|((with_reducible refine x8 rfl 332 _ _ rfl _ w.heap.size _ C rfl ?_ ?_ ?_ B2.out ?_ B3.out ?_);(focus rfl);(focus rfl);(focus rfl);(focus (rw[B4.out];rfl))))
 go_ret
 exact⟨O,hbl⟩
theorem BJ6 (p:Int) (b:Nat) (w:World) (hb:b<256):
 Calls Tryz.prog 206 #[.int .i64 p,.int .u8 b] w fun e w'=>e= .returned (.int .i64 (AD2 p b))∧Below w.heap.size w w':=by
 by_cases h2:p=2
 ·rw[show AD2 p b=b from by unfold AD2;rw[if_pos h2]];subst h2;exact Bm2 b w hb
 ·by_cases h127:127<b
  ·rw[show AD2 p b=65533 from by unfold AD2;rw[if_neg h2,if_pos h127]];exact Bc4 p b w hb h2 h127
  ·by_cases h4:p=4
   ·by_cases h35:b=35
    ·rw[show AD2 p b=163 from by unfold AD2;rw[if_neg h2,if_neg h127,if_pos ⟨h4,h35⟩]];subst h4;subst h35;exact BM9 w
    ·rw[show AD2 p b=b from by unfold AD2;rw[if_neg h2,if_neg h127,if_neg (fun h=>h35 h.2),if_neg (by omega)]];subst h4;exact Bk9 b w hb h127 h35
   ·by_cases h3:p=3
    ·by_cases h95:95≤b∧b≤126
     ·rw[show AD2 p b=AR5.getD (b-95) 0 from by unfold AD2;rw[if_neg h2,if_neg h127,if_neg (fun h=>h4 h.1),if_pos ⟨h3,h95⟩]]
      subst h3
      exact Bj7 b w h95.1 h95.2
     ·rw[show AD2 p b=b from by unfold AD2;rw[if_neg h2,if_neg h127,if_neg (fun h=>h4 h.1),if_neg (fun h=>h95 h.2)]]
      subst h3
      rcases (show b<95∨b=127 by omega) with h|h
      ·exact BI9 b w h
      ·exact BJ7 b w h
    ·rw[show AD2 p b=b from by unfold AD2;rw[if_neg h2,if_neg h127,if_neg (fun h=>h4 h.1),if_neg (fun h=>h3 h.1)]];exact BA9 p b w hb h2 h3 h4 h127
theorem Az7 (p:Int) (w:World):
 Calls Tryz.prog 62 #[.int .i64 p] w fun e w'=>e= .returned (.bool (decide (1≤p∧p≤4)))∧w=w':=by
 by_cases h1:1≤p
 ·by_cases h2:p≤4
  all_goals
   go_enter Tryz.func62,Tryz.ntmps62
   go_wp2
   go_ret
   exact⟨AQ5 (by simp [h1,h2]),O⟩
 ·go_enter Tryz.func62,Tryz.ntmps62
  go_wp2
  go_ret
  exact⟨AQ5 (by simp;omega),O⟩
theorem A98 (p:Int) (w:World) (h:1≤p∧p≤4):
 Calls Tryz.prog 62 #[.int .i64 p] w fun e w'=>e= .returned (.bool true)∧w=w':=
 (Az7 p w).mono fun e w' ⟨h1,h2⟩=>⟨by rw[h1];simp [h],h2⟩
theorem A89 (p:Int) (b:Nat) (w:World) (hb:b<256) (hp:1≤p∧p≤4):
 Calls Tryz.prog 151 #[.int .i64 p,.int .u8 b] w fun e w'=>e= .returned (.tuple #[.int .i64 (AD2 p b),.int .i64 0])∧Below w.heap.size w w':=by
 go_enter Tryz.func151,Tryz.ntmps151
 go_wp2_with (go_at_call 62;refine(A98 _ _ hp).mono ?_;rintro e w' ⟨rfl,rfl⟩)
 refine(BJ6 p b _ hb).mono ?_
 rintro e w1 ⟨rfl,hb1⟩
 go_wp2_with fail
 go_ret2
 exact⟨O,hb1⟩
end Go.Proofs.YtmmnimagbnlcmaaGreatDoor
namespace Go.Sx
section
variable {P:Program} {G:Ctx} {n:Sz} {Q:Post} {s:Fm} {H:List Ent}
theorem AA6 {id:Nat} {l:List Oper} [h:Wide P] {a:Option Addr} {e:TypeId} {sz m c:Nat} {xs:List Value} {H':List Ent} [hp:PickOwn H a e sz m c xs H'] (hk:SOT P G n l.toArray Q H' l.length [] s H 0):SW P G n (.region id l.toArray true) Q s H:=Z6 H' (fun _ hw=>(hw.pick hp.here).drop) hk
theorem q8 {id:Nat} {l:List Oper} [h:Wide P] {b:Nat} {t:TypeId} {cs:List Value} {H':List Ent} [hp:PickBlk H b t cs H'] (hk:SOT P G n l.toArray Q H' l.length [] s H 0):SW P G n (.region id l.toArray true) Q s H:=Z6 H' (fun _ hw=>(hw.pick hp.here).drop) hk
end
end Go.Sx
namespace Go.Proofs.YtmmnimagbnlcmaaGreatDoor
def putS (s:Scr) (c:Int):Scr:={s with C:=rowC s.C s.w s.row.toNat (mendQ J2 (putQ J2 (rowQ s.w s.C s.row.toNat) s.col.toNat c s.pf s.pr s.pb)),col:=(if s.col+1>(s.w:Int)-1 then (s.w:Int)-1 else s.col+1),late:=decide (s.col+1>(s.w:Int)-1)}
def homeS (s:Scr):Scr:={s with late:=false,col:=0}
def A62 (s:Scr):Scr:=if s.row=s.bot-1 then upR s else downS s
def CB5 (s:Scr) (c:Int):Scr:=if s.late=true then putS (A62 (homeS s)) c else putS s c
section
attribute [local irreducible] SW SL SQ AtQ SV SC BB LD PK Yields SO SOT SOA SY SP SPT SPA
theorem BD4 (G:Ctx) (H:List Ent) (p:Int) (b:Nat) (hb:b<256) (hp:1≤p∧p≤4):SV Tryz.prog G 151 [.int .i64 p,.int .u8 b] H (.tuple #[.int .i64 (AD2 p b),.int .i64 0]):=
 u6 (l8 Tryz.func151 rfl rfl) fun w _=>A89 p b w hb hp
theorem BP5 (G:Ctx) (H:List Ent) (C:List Qd) (b w h n c k col:Nat) (r x y z:Int) (hg:GrOk w h C) (hn:n=C.length) (hnc:n≤c) (hk:k<h) (hcol:col<w) (hcol2:J2 r=2→col+1<w):SC Tryz.prog G 157 [gridV w h (some ⟨b,0,none⟩) n c,.int .i64 k,.int .i64 col,.int .i64 r,penV x y z] (.own 97 4 (some ⟨b,0,none⟩) n c (qds C)::H) fun v H'=>v= .tuple #[]∧H'= .own 97 4 (some ⟨b,0,none⟩) n c (qds (rowC C w k (mendQ J2 (putQ J2 (rowQ w C k) col r x y z))))::H:=by
 have hr:=AM6 (w:=w) (h:=h) (k:=k) (n:=C.length) hk hg.len
 have hs:=hg.size
 have e:C.take (k * w)++rowQ w C k++C.drop (k * w+w)=C:=by
  unfold rowQ
  rw[List.append_assoc,←List.drop_drop,List.take_append_drop,List.take_append_drop]
 have:=Bn5 G H (C.take (k * w)) (rowQ w C k) (C.drop (k * w+w)) b w h n c k col r x y z (by rw[List.length_take];omega) (j6 hk hg.len) (by rw[e,hn]) (by rw[hn];exact hg.len1) hnc hs.1.1 (by omega) hcol hcol2
 rw[←Z4,←Z4,e,←Z4,←Z4] at this
 exact this
theorem B19 (G:Ctx) (H:List Ent) (tb:Nat) (cs:List Value) (m0 m:Int) (h1:0≤m0∧m0≤2047) (h2:0≤m∧m≤2047) [hb:HasBlk H tb 158 cs] (hc:cs[11]? =some (.int .i64 m0)):SV Tryz.prog G 154 [.pointer (some ⟨tb,0,none⟩),.int .i64 m] H (.bool (iand m0 m !=0)):=by
 refine R3 Tryz.func154 O O O O O ?_
 repeat' (first|(apply E8;first|(apply A8;refine A9 ?_)|(apply C8;refine D7 O O ?_)|(apply E5;refine F7 O O O ?_;first|(apply BZ1;refine B83 (by (omega)) (by (omega)) (by (omega)) (by (omega)) ?_)|refine F9 O ?_)|(apply F5;refine F8 O O ?_;refine F4 hc ?_)|(apply D5;refine D9 O O ?_)|(apply G6;refine G7 (D8 O O) O ?_)|(apply I9;refine J7 (F6 O O) O ?_))|(apply D6)|(apply I4)|(apply A7)|(apply C9))
 refine N7 (by (exact .inr O)) O O0 ?_
 rfl
end
abbrev Ac:=Int×Int×Int×ByteArray×Rx Int×ByteArray
def acC (x:Ac):List Value:=[.int .i64 x.1,.int .i64 x.2.1,.int .i64 x.2.2.1,.string x.2.2.2.1,.slice x.2.2.2.2.1.1 x.2.2.2.2.1.2.2.length x.2.2.2.2.1.2.1,.string x.2.2.2.2.2]
abbrev acV (k c m:Int) (i:ByteArray) (a:Option Addr) (n cp:Nat) (t:ByteArray):Value:= .agg #[.int .i64 k,.int .i64 c,.int .i64 m,.string i,.slice a n cp,.string t]
instance :En acC 6:=⟨fun _=>rfl⟩
def acs (X:List Ac):List Value:=X.flatMap acC
theorem Ar5 (L:List Ac):(acs L).length=L.length * 6:=AZ2 L
theorem Bm8 (L:List Ac) (x:Ac):acs (L++[x])=acs L++acC x:=BH4 L x
theorem Bu9 (L:List Ac):(acs L).all (·.oneCell')=true:=BO9 L fun _=>rfl
abbrev nA:Rx Int:=(none,0,[])
abbrev e0:ByteArray:=⟨#[]⟩
abbrev dA:Ac:=(6,0,0,e0,nA,e0)
def finA (i:ByteArray) (y:Ac):Ac:=if i.size=3 then dA else y
def moreU (i:ByteArray) (x:Int):ByteArray:=if i.size<3 then i++strOfNums [x] else i
def argU (g:ByteArray) (x:Int):ByteArray:=if g.size<100 then g++strOfNums [x] else g
abbrev Ps:=Int×Int×ByteArray×ByteArray×ByteArray
def mcH (b:Nat) (p:Ps) (X:List Ac) (a:Option Addr) (c:Nat) (K:List Ent):List Ent:=
 .blk b 152 [.int .i64 p.1,.int .i64 p.2.1,.string p.2.2.1,.string p.2.2.2.1,.string p.2.2.2.2,.slice a X.length c]:: .own 160 6 a X.length c (acs X)::K
section
attribute [local irreducible] SW SL SQ AtQ SV SC BB LD PK Yields SO SOT SOA SY SP SPT SPA
theorem AK1 (G:Ctx) (K:List Ent) (b:Nat) (s m:Int) (i g t:ByteArray) (X:List Ac) (a:Option Addr) (c:Nat) (k cd mk:Int) (it:ByteArray) (r:Rx Int) (tx:ByteArray) (hX:X.length≤10000000):SC Tryz.prog G 97 [.pointer (some ⟨b,0,none⟩),acV k cd mk it r.1 r.2.2.length r.2.1 tx] (mcH b (s,m,i,g,t) X a c K) (fun v H'=>∃a' c',v=resV []∧H'=mcH b (s,m,i,g,t) (X++[(k,cd,mk,it,r,tx)]) a' c' K):=by
 have hlx:=Ar5 X
 have hone:=Bu9 X
 unfold mcH
 dsimp only
 rw[Bm8,List.length_append,show [(k,cd,mk,it,r,tx)].length=1 from rfl]
 generalize acs X=vs at *
 generalize X.length=n at *
 refine I7 Tryz.func97 O O O O O ?_
 repeat' (first|(apply E8;first|(apply A8;refine A9 ?_)|(apply K6;refine L9 O O O O O O (fun _=>?_)))|(apply D6)|((fail_if_success (refine J5 (id:=1) ?_));apply A7)|(apply C9))
 rename_i bx
 refine AE0 8 (.blk bx 160 [.int .i64 k,.int .i64 cd,.int .i64 mk,.string it,.slice r.1 r.2.2.length r.2.1,.string tx]:: .blk b 152 [.int .i64 s,.int .i64 m,.string i,.string g,.string t,.slice a n c]::K) (.blk bx 160 [.int .i64 k,.int .i64 cd,.int .i64 mk,.string it,.slice r.1 r.2.2.length r.2.1,.string tx]::K) J3 O ?_
 repeat' (first|(apply E8;first|(apply A8;refine A9 ?_)|(apply I9;refine J7 (F6 O O) O ?_)|(apply K5;refine U9 O O O O (by (rfl)) (by (rfl)) (by omega) O O (fun _ _=>?_))|(apply H8;refine M9 O O O O O O O ?_)|(apply j3;refine AX2 O O O O O O O O O (fun _=>?_)))|(apply Q0;refine N8 (k:=0) J3 ?_)|(apply AN7;refine AK7 (k:=0) J3 ?_)|(apply U3;first|(refine L8 O ?_)|(refine O4 O O O O (by kernel_rfl) (by decide+kernel) (by decide+kernel) ?_;apply M3;refine G9 (D8 O O) ?_)|(refine O5 O ?_)|(refine N9 (by decide+kernel) ?_)|(refine Q6 (by kernel_rfl) ?_))|(apply V3;first|(refine Q5 O)|(refine U1 (by decide+kernel) ?_)|(refine Q3 O ?_ ?_))|(apply AL2;first|(refine AH9 O ?_)|(refine AC5 O O O O (by kernel_rfl) (by decide+kernel) (by decide+kernel) (by decide+kernel) ?_;first|(apply O1;refine G9 (P9 O O) ?_)|(apply R9;refine R6 O ?_;first|refine F4 O ?_ |refine M5 O ?_)|(apply M3;refine G9 (D8 O O) ?_)|(apply R5;refine G9 (F6 O O) ?_))|(refine AC9 O ?_)|(refine AE2 (by kernel_rfl) ?_))|(apply AL3;first|(refine AE1 O)|(refine AH6 (by decide+kernel) ?_)|(refine AH3 O O ?_ ?_)|(refine AK8 O O ?_ ?_)))
 rename_i b2 a2 c2
 exact I8 (.blk b 152 [.int .i64 s,.int .i64 m,.string i,.string g,.string t,.slice a2 (n+1) c2]:: .own 160 6 a2 (n+1) c2 (vs++acC (k,cd,mk,it,r,tx))::K) (.inl O) O J3 ⟨a2,c2,O,O⟩
theorem AS8 (G:Ctx) (K:List Ent) (b:Nat) (s m:Int) (i g t:ByteArray) (X:List Ac) (a:Option Addr) (c:Nat) (n:Int):SC Tryz.prog G 98 [.pointer (some ⟨b,0,none⟩),.int .i64 n] (mcH b (s,m,i,g,t) X a c K) (fun v H'=>v=resV []∧H'=mcH b (n,0,e0,e0,e0) X a c K):=by
 unfold mcH
 dsimp only
 refine I7 Tryz.func98 O O O O O ?_
 repeat' (first|(apply E8;first|(apply A8;refine A9 ?_)|(apply C8;refine D7 O O ?_)|(apply G6;refine G7 (D8 O O) O ?_)|(apply U0;refine U6 (Q9 O O O) O ?_)|(apply I9;refine J7 (F6 O O) O ?_)|(apply H8;refine AQ9 (off:=0) O O O O O O (Nat.le_of_ble_eq_true O) O ?_))|(apply A7))
 exact I8 (.blk b 152 [.int .i64 n,.int .i64 0,.string e0,.string e0,.string e0,.slice a X.length c]:: .own 160 6 a X.length c (acs X)::K) (.inl O) O J3 ⟨O,O⟩
theorem BL3 (G:Ctx) (K:List Ent) (b:Nat) (s m:Int) (i g t:ByteArray) (X:List Ac) (a:Option Addr) (c:Nat):SC Tryz.prog G 149 [.pointer (some ⟨b,0,none⟩)] (mcH b (s,m,i,g,t) X a c K) (fun v H'=>v=resV []∧H'=mcH b (6,0,e0,e0,e0) X a c K):=by
 unfold mcH
 dsimp only
 refine Z0 Tryz.func149 O O O O O ?_
 repeat' (first|(apply E8;first|(apply A8;refine A9 ?_)|(apply C8;refine D7 O O ?_)|(apply G6;refine G7 (D8 O O) O ?_)|(apply U0;refine U6 (Q9 O O O) O ?_)|(apply I9;refine J7 (F6 O O) O ?_)|(apply H8;refine AQ9 (off:=0) O O O O O O (Nat.le_of_ble_eq_true O) O ?_))|(apply A7))
 exact I8 (.blk b 152 [.int .i64 6,.int .i64 0,.string e0,.string e0,.string e0,.slice a X.length c]:: .own 160 6 a X.length c (acs X)::K) (.inl O) O J3 ⟨O,O⟩
theorem AT4 (G:Ctx) (H:List Ent) (n l h:Int):SV Tryz.prog G 94 [.int .i64 n,.int .i64 l,.int .i64 h] H (.bool (decide (l≤n∧n≤h))):=by
 refine AF2 Tryz.func94 O O O O O ?_
 repeat' (first|(apply E8;first|(apply A8;refine A9 ?_)|(apply C8;refine D7 O O ?_)|(apply E5;refine F7 O O O ?_;refine F9 O ?_)|(apply D5;refine D9 O O ?_)|(apply I6;refine J4 O O ?_;first|(apply P7;refine P6 O ?_)|(apply M6;refine M7 O ?_))|(apply I5;refine J9 O O O O ?_;first|(apply I1)|(apply H7)|(apply E9<;>intro hq<;>(try (exfalso;omega)))))|(apply D6)|(apply I4)|(apply A7)|(apply C9))
 all_goals refine N7 (by (exact .inr O)) O O0 ?_
 ·exact congrArg Value.bool (decide_eq_decide.2 ⟨fun h2=>⟨hq,h2⟩,fun h2=>h2.2⟩)
 ·exact congrArg Value.bool (decide_eq_false (fun h2=>hq h2.1)).symm
theorem AU7 (G:Ctx) (K:List Ent) (b:Nat) (s m:Int) (i g t:ByteArray) (X:List Ac) (a:Option Addr) (c:Nat) (n:Int) (hX:X.length≤10000000):SC Tryz.prog G 99 [.pointer (some ⟨b,0,none⟩),.int .i64 n] (mcH b (s,m,i,g,t) X a c K) (fun v H'=>∃a' c',v=resV []∧H'=mcH b (n,0,e0,e0,e0) (X++[(6,0,0,e0,nA,e0)]) a' c' K):=by
 have c1:=AK1 G K b s m i g t X a c 6 0 0 e0 nA e0 hX
 have c2:=fun a c=>AS8 G K b s m i g t (X++[(6,0,0,e0,nA,e0)]) a c n
 refine I7 Tryz.func99 O O O O O ?_
 repeat' (first|(apply E8;first|(apply A8;refine A9 ?_)|(apply C8;refine D7 O O ?_)|(apply U0;refine U6 (Q9 O O O) O ?_)|(apply H5;first|(refine c_call O O O c1 O O ?_;rintro _ _ ⟨a1,k1,rfl,rfl⟩)|(refine c_call O O O (c2 _ _) O O ?_;rintro _ _ ⟨rfl,rfl⟩)))|(apply D6)|(apply A7)|(apply C9))
 exact I8 _ (.inl O) O (fun _ hw=>hw) ⟨a1,k1,O,O⟩
theorem Ae6 (G:Ctx) (K:List Ent) (b:Nat) (s m:Int) (i g t:ByteArray) (X:List Ac) (a:Option Addr) (c:Nat) (k cd mk:Int) (it:ByteArray) (r:Rx Int) (tx:ByteArray) (hX:X.length≤10000000):SC Tryz.prog G 148 [.pointer (some ⟨b,0,none⟩),acV k cd mk it r.1 r.2.2.length r.2.1 tx] (mcH b (s,m,i,g,t) X a c K) (fun v H'=>∃a' c',v=resV []∧H'=mcH b (0,0,e0,e0,e0) (X++[finA i (k,cd,mk,it,r,tx)]) a' c' K):=by
 have c1:=fun K=>AK1 G K b s m i g t X a c 6 0 0 e0 nA e0 hX
 have c2:=fun K=>AK1 G K b s m i g t X a c k cd mk it r tx hX
 have c3:=fun K X a c=>AS8 G K b s m i g t X a c 0
 unfold mcH at *
 dsimp only at *
 refine I7 Tryz.func148 O O O O O ?_
 repeat' (first|(apply E8;first|(apply A8;refine A9 ?_)|(apply C8;refine D7 O O ?_)|(apply E5;refine F7 O O O ?_;refine F9 O ?_)|(apply F5;refine F8 O O ?_;first|refine F4 O ?_ |refine M5 O ?_)|(apply G6;refine G7 (D8 O O) O ?_)|(apply U0;refine U6 (Q9 O O O) O ?_)|(apply I9;refine J7 (F6 O O) O ?_)|(apply H5;first|(refine AO9 (fun _ hw=>hw.drop) ?_;first|(refine c_call O O O (c1 _) O O ?_;rintro _ _ ⟨a1,k1,rfl,rfl⟩)|(refine c_call O O O (c2 _) O O ?_;rintro _ _ ⟨a1,k1,rfl,rfl⟩))|(refine c_call O O O (c3 _ _ _ _) O O ?_;rintro _ _ ⟨rfl,rfl⟩))|(apply K5;refine s_call (U2 O O) O ?_)|(apply H8;refine Q8 O O O O O O O O ?_)|(apply K6;refine L9 O O O O O O (fun _=>?_)))|(apply D6)|(apply G8)|(apply A7)|(refine G5 O ?_;apply E9<;>intro hq<;>(try (exfalso;omega)))|(apply C9))
 ·unfold finA
  rw[if_pos (by omega)]
  exact I8 _ (.inl O) O (fun _ hw=>hw) ⟨_,_,O,O⟩
 ·unfold finA
  rw[if_neg (by omega)]
  exact I8 _ (.inl O) O (fun _ hw=>hw) ⟨_,_,O,O⟩
theorem A10 (G:Ctx) (K:List Ent) (b:Nat) (s m:Int) (i g t:ByteArray) (X:List Ac) (a:Option Addr) (c:Nat) (x:Int) (hx:0≤x∧x≤127):SC Tryz.prog G 147 [.pointer (some ⟨b,0,none⟩),.int .i64 x] (mcH b (s,m,i,g,t) X a c K) (fun v H'=>v=resV []∧H'=mcH b (s,m,moreU i x,g,t) X a c K):=by
 unfold mcH
 dsimp only
 have hcat:∀(i:ByteArray),i.size<3→i.size+(strOfNums [x]).size≤9223372036854775807:=fun i h=>by rw[strOfNums_size];simp;omega
 refine I7 Tryz.func147 O O O O O ?_
 repeat' (first|(apply E8;first|(apply A8;refine A9 ?_)|(apply C8;refine D7 O O ?_)|(apply E5;refine F7 O O O ?_;first|(refine AN9 (hcat _ (by omega)) ?_)|(refine F9 O ?_))|(apply F5;refine F8 O O ?_;refine F4 O ?_)|(apply G6;refine G7 (D8 O O) O ?_)|(apply AA3;first|(refine AA8 (AC1 (k:= .i32) O O ⟨by omega,by omega⟩) O ?_)|(refine AA8 (Ak9 O O (by omega) (by omega)) O ?_))|(apply I9;refine J7 (F6 O O) O ?_)|(apply K5;refine s_call (U2 O O) O ?_)|(apply H8;refine M9 O O O O O O O ?_))|(apply D6)|(apply G8)|(apply A7)|(refine G5 O ?_;apply E9<;>intro hq<;>(try (exfalso;omega)))|(apply C9))
 ·unfold moreU
  rw[if_pos (by omega)]
  exact I8 _ (.inl O) O (fun _ hw=>hw) ⟨O,O⟩
 ·unfold moreU
  rw[if_neg (by omega)]
  exact I8 _ (.inl O) O (fun _ hw=>hw) ⟨O,O⟩
def actS (s:Scr) (k c:Int):Scr:=if k=1 then CB5 s c else if c=13 then homeS s else A62 s
end
theorem GrOk.putRow {w h k:Nat} {C:List Qd} (g:GrOk w h C) (hk:k<h) {R':List Qd} (hR':R'.length=w) (ho:∀i,i<w→AB3 R' i=true):GrOk w h (rowC C w k R'):=by
 have hr:=AM6 (w:=w) (h:=h) (k:=k) (n:=C.length) hk g.len
 have e:C=C.take (k * w)++rowQ w C k++C.drop (k * w+w):=by
  unfold rowQ
  rw[List.append_assoc,←List.drop_drop,List.take_append_drop,List.take_append_drop]
 unfold rowC
 exact g.put hk e (by rw[List.length_take];omega) (j6 hk g.len) hR' ho
section
attribute [local irreducible] SW SL SQ AtQ SV SC BB LD PK Yields SO SOT SOA SY SP SPT SPA
def ClnP (G:Ctx) (H:List Ent) (s:Scr) (gn on:Nat) (v:Value) (H':List Ent):Prop:=
 ∃(gb gc ob oc:Nat) (pa:Option Addr) (pc:Nat) (Y:List (Rx Qd)) (E:List Ent),v= .agg (scnC s (some ⟨gb,0,none⟩) gn gc (some ⟨ob,0,none⟩) on oc pa Y.length pc).toArray∧
  H'= .own 97 4 (some ⟨gb,0,none⟩) gn gc (qds s.C):: .own 119 1 pa Y.length pc (Y.map rxV)::(E++(.own 97 4 (some ⟨ob,0,none⟩) on oc (qds s.D)::H))∧RdX qds G E Y∧Y.map (·.2.2)=s.past∧gn≤gc∧on≤oc
def bare (y:Ac):Prop:=y.2.2.2.2.1.2.2=[]∧y.2.2.2.2.2=e0
structure ScRd (G:Ctx) (H:List Ent) (s:Scr) (ga:Option Addr) (gn gc:Nat) (oa:Option Addr) (on oc:Nat) (pa:Option Addr) (pn pc:Nat) (X:List (Rx Qd)):Prop where
 g:RdC G H ga (qds s.C)
 o:RdC G H oa (qds s.D)
 p:RdC G H pa (X.map rxV)
 r:RdX qds G H X
 x:X.map (·.2.2)=s.past
 gn':gn=s.C.length
 on':on=s.D.length
 pn':pn=X.length
 gc':gn≤gc
 oc':on≤oc
end
theorem CD9 {P:Program} {G:Ctx} {f:FuncId} {args:List Value} {H:List Ent} {R:Value→List Ent→Prop} (hc:Sx.Callee P f) (h:∀w,Holds G H w→Calls P f args.toArray w fun e w'=>∃v H',e= .returned v∧Holds G H' w'∧R v H'):SC P G f args H R:=⟨hc,h⟩
section
attribute [local irreducible] SW SL SQ AtQ SV SC BB LD PK Yields SO SOT SOA SY SP SPT SPA
theorem Bh2 (G:Ctx) (H:List Ent) (m:Int) (hm:∀w,Holds G H w→w.cell? ⟨2,0,none⟩=some (.int .i64 m)) (s:ByteArray) (c:UInt8) (hs:s.size≤4000000):SC Tryz.prog G 146 [.string s,.string ⟨#[c]⟩] H fun v H'=>∃b,v= .slice (some ⟨b,0,none⟩) (AK5 c s).length (AK5 c s).length∧H'= .blk b 9 (strs (AK5 c s))::H:=by
 refine CD9 (l8 Tryz.func146 O O) fun w hw=>?_
 have h:=Tryz.strings_Split s ⟨#[c]⟩ m w (by omega) (hm w hw) (Nat.le_refl 1)
 rw[A83,Ae4] at h
 exact h.mono fun e w' ⟨he,hw'⟩=>⟨_,_,he,hw'▸hw.alloc _ _,_,O,O⟩
end
theorem BA3 (s:ByteArray):(AK5 59 s).length≤s.size+1:=by
 unfold AK5
 rw[List.length_map]
 have:∀(l acc:List UInt8),(AB8 59 acc l).length≤l.length+1:=by
  intro l
  induction l with
  | nil=>intro acc;simp [AB8]
  | cons b l ih=>
    intro acc
    unfold AB8
    split
    ·have:=ih [];simp;omega
    ·have:=ih (acc++[b]);simp;omega
 exact this s.data.toList []
theorem BM6:∀(j:Nat) b,cutA.data.toList[j]? =some b→b.toNat<128:=fun j b h=>by
 have:∀b∈cutA.data.toList,b.toNat<128:=by decide
 exact this b (List.mem_of_getElem? h)
def numW (w:ByteArray):Int:=numA (nums w)
section
attribute [local irreducible] SW SL SQ AtQ SV SC BB LD PK Yields SO SOT SOA SY SP SPT SPA
theorem Aj3 (G:Ctx) (H:List Ent) (m:Int) (hm:∀H w,Holds G H w→w.cell? ⟨2,0,none⟩=some (.int .i64 m)) (s:ByteArray) (hs:s.size≤2000000):SC Tryz.prog G 93 [.string s] H (fun v H'=>∃a' c',v= .tuple #[.slice a' (readA s).1.length c',.int .i64 (readA s).2]∧H'= .own 3 1 a' (readA s).1.length c' (ints (readA s).1)::H):=by
 have cT:=fun H=>Ba2 G H cutA s (by decide) (by decide) (by omega) BM6
 have cS:=fun H=>Bh2 G H m (hm H) s 59 (by omega)
 have hall:(tlN (inS cutA) (trN (inS cutA) (nums s))=[])↔(nums s).all okA=true:=by
  rw[Bl8]
  have:∀l:List Int,(∀x∈l,0≤x∧x≤255)→l.all (inS cutA)=l.all okA:=fun l=>by
   induction l with
   | nil=>exact fun _=>O
   | cons x l ih=>exact fun h=>by rw[List.all_cons,List.all_cons,Bt8 x (h x List.mem_cons_self),ih (fun y hy=>h y (List.mem_cons_of_mem _ hy))]
  rw[this _ (AE8 s)]
 generalize tlN (inS cutA) (trN (inS cutA) (nums s))=t at *
 have hts:strOfNums t=⟨#[]⟩↔t=[]:=⟨fun h=>by have:=congrArg ByteArray.size h;rw[strOfNums_size] at this;exact List.eq_nil_of_length_eq_zero this,fun h=>by subst h;rfl⟩
 unfold readA
 by_cases hok:(nums s).all okA=true
 ·rw[if_pos hok]
  have ht0:strOfNums t=⟨#[]⟩:=hts.2 (hall.2 hok)
  rw[ht0] at cT
  have hW:=fun w hw=>Ad7 s hok w hw
  have hWc:=BA3 s
  have hok2:∀(i:Nat) (x:Int),(nums s)[i]? =some x→(48≤x∧x≤57)∨x=59:=fun i x h=>by
   rw[List.all_eq_true] at hok
   have:=hok x (List.mem_of_getElem? h)
   unfold okA at this
   rw[decide_eq_true_eq] at this
   omega
  have hbd:=AE8 s
  have hlen:=nums_length s
  have hmap:∀l:List ByteArray,l.map (fun w=>numA (nums w))=l.map numW:=fun _=>rfl
  rw[hmap]
  generalize AK5 59 s=L at *
  have Hok2:=Lib.hid hok2
  have HW:=Lib.hid hW
  have Hbd:=Lib.hid hbd
  clear hok2 hbd hall hts ht0 hok hm hmap
  refine Z0 Tryz.func93 O O O O O ?_
  repeat' (first|(apply E8;first|(apply A8;refine A9 ?_)|(apply C8;refine D7 O O ?_)|(apply E5;refine F7 O O O ?_;refine AM3 ?_)|(apply D5;refine D9 O O ?_)|(apply H5;refine H6 O O O (cT _) O O ?_)|(apply K5;refine s_call (U2 O O) O ?_))|(apply D6)|(apply G8)|(apply F3)|(apply A7)|(refine G5 O ?_;apply H7)|(apply C9))
  refine R7 (α:=Nat) (fun i=>[(0,.string s),(14,.int .i64 s.size),(13,.string s),(15,.int .i64 i)]) (fun _=>H) (fun i=>i≤s.size) (fun i=>s.size-i) 0 (Nat.zero_le _) Q7 J3 ?_
  intro i hi
  by_cases hlt:i<s.size
  ·obtain⟨x,hx⟩:=AC3 (X:=nums s) (k:=i) (by omega)
   have hv:(nums s).getD (i:Int).toNat 0=x:=by rw[List.getD_eq_getElem?_getD,show (i:Int).toNat=i from rfl,hx];rfl
   have hxo:=Hok2.out i x hx
   clear hx cT cS
   rcases hxo with hxo|hxo
   ·repeat' (first|(apply E8;first|(apply A8;refine A9 ?_)|(apply C8;refine D7 O O ?_)|(apply E5;refine F7 O O O ?_;first|(apply K9;refine L6 ⟨by omega,by omega⟩ ?_)|refine F9 O ?_)|(apply D5;refine D9 O O ?_)|(apply I6;refine J4 O O ?_;first|(apply P7;refine P6 O ?_)|(apply M6;refine M7 O ?_))|(apply V5;refine Y5 (l9 hv O O O (by omega) (by omega)) O ?_)|(apply I5;refine J9 O O O O ?_;first|(apply I1)|(apply P5<;>intro hq<;>(try (exfalso;omega)))|(apply Y7<;>intro hq<;>(try (exfalso;omega)))))|(apply D6)|(apply G8)|(apply F3)|(apply A7)|(refine G5 O ?_;apply E9<;>intro hq<;>(try (exfalso;omega)))|(apply C9)|(apply H9))
    all_goals (exact J6 (i+1) ⟨by omega,by omega⟩ Q7 J3)
   ·repeat' (first|(apply E8;first|(apply A8;refine A9 ?_)|(apply C8;refine D7 O O ?_)|(apply E5;refine F7 O O O ?_;first|(apply K9;refine L6 ⟨by omega,by omega⟩ ?_)|refine F9 O ?_)|(apply D5;refine D9 O O ?_)|(apply I6;refine J4 O O ?_;apply M6;refine M7 O ?_)|(apply V5;refine Y5 (l9 hv O O O (by omega) (by omega)) O ?_)|(apply I5;first|(refine J9 O O O O ?_;first|(apply H7)|(apply Y7<;>intro hq<;>(try (exfalso;omega))))|refine o8 O O O O O O ?_))|(apply D6)|(apply G8)|(apply F3)|(apply A7)|(refine G5 O ?_;first|(apply H7)|(apply E9<;>intro hq<;>(try (exfalso;omega))))|(apply C9)|(apply H9))
    all_goals (exact J6 (i+1) ⟨by omega,by omega⟩ Q7 J3)
  ·repeat' (first|(apply E8;first|(apply A8;refine A9 ?_)|(apply C8;refine D7 O O ?_)|(apply E5;refine F7 O O O ?_;refine F9 O ?_)|(apply D5;refine D9 O O ?_)|(apply H5;refine c_call O O O (cS _) O O ?_;rintro _ _ ⟨bL,rfl,rfl⟩)|(apply K5;refine s_call (S9 O O) O ?_))|(apply D6)|(apply O7)|(apply F3)|((fail_if_success (refine J5 (id:=11) ?_));apply A7)|(refine G5 O ?_;apply E9<;>intro hq<;>(try (exfalso;omega)))|(apply C9)|(apply K3)|(apply K4))
   have hlx:(strs L).length=L.length * 1:=by simp [strs]
   refine R7 (α:=Nat×Option Addr×Nat) (fun g=>[(5,.slice g.2.1 ((L.take g.1).map numW).length g.2.2),(36,.slice (some ⟨bL,0,none⟩) L.length L.length),(37,.int .i64 L.length),(38,.int .i64 g.1)]) (fun g=> .own 3 1 g.2.1 ((L.take g.1).map numW).length g.2.2 (ints ((L.take g.1).map numW)):: .blk bL 9 (strs L)::H)
    (fun g=>g.1≤L.length∧g.1≤32) (fun g=>L.length-g.1) (0,none,0) ⟨Nat.zero_le _,by decide⟩ Q7 (fun _ hw=>(hw.nilrow _ _).subs (by repeat (first|refine Subs.cons (by repeat constructor) ?_ |exact Subs.sub O0))) ?_
   rintro ⟨j,a,c⟩ ⟨hj,hj32⟩
   dsimp only at hj hj32 ⊢
   have hol:((L.take j).map numW).length=j:=by rw[List.length_map,List.length_take];omega
   by_cases hjl:j<L.length
   ·obtain⟨w,hw⟩:=AC3 (X:=L) (k:=j) (by omega)
    have hwi:(strs L)[(j:Int).toNat * 1]? =some (.string w):=by simp [strs,hw]
    obtain⟨hwd,hwz⟩:=HW.out w (List.mem_of_getElem? hw)
    by_cases h32:j=32
    ·rw[hol]
     repeat' (first|(apply E8;first|(apply A8;refine A9 ?_)|(apply C8;refine D7 O O ?_)|(apply E5;refine F7 O O O ?_;refine F9 O ?_)|(apply F5;refine F8 O O ?_;refine X8 hwi ?_)|(apply D5;refine D9 O O ?_)|(apply M4;refine M8 (K7 O O O hlx (by omega) (by omega)) O ?_)|(apply K5;refine s_call (S9 O O) O ?_))|(apply D6)|(apply G8)|(apply I4)|(apply O7)|(apply F3)|(apply A7)|(refine G5 O ?_;apply E9<;>intro hq<;>(try (exfalso;omega)))|(apply C9)|(apply K3)|(apply K4)|refine AK6 O ?_)
     subst h32
     exact I8 (.own 3 1 a 32 c (ints ((L.take 32).map numW))::H) (by (exact .inr O)) O J3 ⟨a,c,by rw[hol];rfl,by rw[hol]⟩
    ·have hnx:(L.take (j+1)).map numW=(L.take j).map numW++[numW w]:=by
      rw[List.take_succ_eq_append_getElem hjl,List.map_append]
      have:L[j]=w:=(List.getElem?_eq_some_iff.1 hw).2
      rw[this];rfl
     have hnl:=nums_length w
     have hpre:∀k,-1≤numA ((nums w).take k)∧numA ((nums w).take k)≤16383:=fun k=>BG9 _ (fun x hx=>hwd x (List.mem_of_mem_take hx))
     have hstep:∀(k:Nat) (d:Int),(nums w)[k]? =some d→numA ((nums w).take (k+1))=stepA (numA ((nums w).take k)) d∧48≤d∧d≤57:=fun k d h=>by
      obtain⟨h1,h2⟩:=List.getElem?_eq_some_iff.1 h
      rw[List.take_succ_eq_append_getElem h1,BT6,h2]
      exact⟨O,hwd d (List.mem_of_getElem? h)⟩
     have hend:numA ((nums w).take w.size)=numW w:=by rw[←nums_length,List.take_length];rfl
     have Hpre:=Lib.hid hpre
     have Hstep:=Lib.hid hstep
     have Hnx:=Lib.hid hnx
     clear hpre hstep hnx hw hwd cT cS
     rw[hol]
     repeat' (first|(apply E8;first|(apply A8;refine A9 ?_)|(apply C8;refine D7 O O ?_)|(apply E5;refine F7 O O O ?_;refine F9 O ?_)|(apply F5;refine F8 O O ?_;refine X8 hwi ?_)|(apply D5;refine D9 O O ?_)|(apply M4;refine M8 (K7 O O O hlx (by omega) (by omega)) O ?_)|(apply K5;first|refine s_call (S9 O O) O ?_ |refine s_call (U2 O O) O ?_))|(apply D6)|(apply G8)|(apply F3)|((fail_if_success (refine J5 (id:=16) ?_));apply A7)|(refine G5 O ?_;apply E9<;>intro hq<;>(try (exfalso;omega)))|(apply C9))
     refine R7 (α:=Nat) (fun k=>[(5,.slice a j c),(36,.slice (some ⟨bL,0,none⟩) L.length L.length),(37,.int .i64 L.length),(38,.int .i64 j),(7,.string w),(8,.int .i64 (numA ((nums w).take k))),(46,.int .i64 w.size),(47,.int .i64 k)]) (fun _=> .own 3 1 a j c (ints ((L.take j).map numW)):: .blk bL 9 (strs L)::H)
      (fun k=>k≤w.size) (fun k=>w.size-k) 0 (Nat.zero_le _) Q7 J3 ?_
     intro k hk
     by_cases hkl:k<w.size
     ·obtain⟨d,hd⟩:=AC3 (X:=nums w) (k:=k) (by omega)
      have hv:(nums w).getD (k:Int).toNat 0=d:=by rw[List.getD_eq_getElem?_getD,show (k:Int).toNat=k from rfl,hd];rfl
      obtain⟨h1,h2,h3⟩:=Hstep.out k d hd
      obtain⟨h4,h5⟩:=Hpre.out k
      generalize numA ((nums w).take k)=n at *
      clear hd hend
      repeat' (first|(apply E8;first|(apply A8;refine A9 ?_)|(apply C8;refine D7 O O ?_)|(apply E5;refine F7 O O O ?_;first|(apply K9;refine L6 ⟨by omega,by omega⟩ ?_)|(apply U8;refine V4 ⟨by omega,by omega⟩ ?_)|(apply BO4;refine AS7 ⟨by omega,by omega⟩ ?_)|refine F9 O ?_)|(apply D5;refine D9 O O ?_)|(apply AA3;refine AA8 (AC1 (k:= .i64) O O ⟨by omega,by omega⟩) O ?_)|(apply V5;refine Y5 (l9 hv O O O (by omega) (by omega)) O ?_)|(apply K5;first|(refine s_call (AS6 O O O) O ?_)|(refine s_call (CA0 O O O) O ?_)))|(apply D6)|(apply G8)|(apply F3)|(apply A7)|(refine G5 O ?_;apply E9<;>intro hq<;>(try (exfalso;omega)))|(apply C9)|(apply H9))
      refine J6 (k+1) ⟨by omega,by omega⟩ ?_ J3
      rw[h1]
      exact Q7
     ·obtain rfl:w.size=k:=by omega
      rw[hend]
      repeat' (first|(apply E8;first|(apply A8;refine A9 ?_)|(apply C8;refine D7 O O ?_)|(apply E5;refine F7 O O O ?_;first|(apply K9;refine L6 ⟨by omega,by omega⟩ ?_)|refine F9 O ?_)|(apply D5;refine D9 O O ?_)|(apply K5;refine U9 O O O O (by (rfl)) (by (rfl)) (by omega) O O (fun _ _=>?_))|(apply j3;refine R8 O O O O O O O O O O (fun _=>?_)))|(apply D6)|(apply O7)|(apply A7)|(refine G5 O ?_;apply E9<;>intro hq<;>(try (exfalso;omega)))|(apply C9)|(apply K3)|(apply H9)|(apply K4))
      rename_i bx ax cx
      refine J6 (j+1,ax,cx) ⟨⟨by dsimp only;omega,by dsimp only;omega⟩,by dsimp only;omega⟩ ?_ ?_
      ·dsimp only;rw[Hnx.out,List.length_append,hol];exact Q7
      ·dsimp only;rw[Hnx.out,List.length_append,hol,show ints ((L.take j).map numW++[numW w])=ints ((L.take j).map numW)++[.int .i64 (numW w)] from by simp [ints]];exact J3
   ·obtain rfl:L.length=j:=by omega
    rw[show L.take 32=L from List.take_of_length_le hj32]
    rw[List.take_length]
    repeat' (first|(apply E8;first|(apply A8;refine A9 ?_)|(apply C8;refine D7 O O ?_)|(apply E5;refine F7 O O O ?_;refine F9 O ?_)|(apply D5;refine D9 O O ?_))|(apply D6)|(apply I4)|(apply O7)|(apply A7)|(refine G5 O ?_;apply E9<;>intro hq<;>(try (exfalso;omega)))|(apply C9)|(apply K3)|(apply K4))
    exact I8 (.own 3 1 a (L.map numW).length c (ints (L.map numW))::H) (by (exact .inr O)) O J3 ⟨a,c,O,O⟩
 ·rw[if_neg hok]
  have ht0:¬strOfNums t=⟨#[]⟩:=fun h=>hok (hall.1 (hts.1 h))
  refine Z0 Tryz.func93 O O O O O ?_
  repeat' (first|(apply E8;first|(apply A8;refine A9 ?_)|(apply C8;refine D7 O O ?_)|(apply E5;refine F7 O O O ?_;refine AM3 ?_)|(apply D5;refine D9 O O ?_)|(apply H5;refine H6 O O O (cT _) O O ?_)|(apply K5;refine s_call (U2 O O) O ?_))|(apply D6)|(apply G8)|(apply I4)|(apply F3)|(apply A7)|(refine G5 O ?_;apply AF5<;>intro hq)|(apply C9)|(apply J8))
  all_goals (first|(exact absurd (of_decide_eq_true (by assumption)) ht0)|skip)
  exact I8 (.own 3 1 none 0 0 []::H) (by (exact .inr O)) O (fun _ hw=>hw.nilrow _ _) ⟨none,0,O,O⟩
theorem Ao2 (G:Ctx) (H:List Ent) (L:List Int) (a:Option Addr) (n c:Nat) [h1:RdC G H a (ints L)] (hn:n=L.length) (i none:Int):SV Tryz.prog G 167 [.slice a n c,.int .i64 i,.int .i64 none] H (.int .i64 (if 0≤i∧i<n∧L.getD i.toNat 0≠ -1 then L.getD i.toNat 0 else none)):=by
 have hlx:(ints L).length=n * 1:=by rw[hn];simp [ints]
 by_cases hi:0≤i∧i<n
 ·obtain⟨x,hx⟩:=AC3 (X:=L) (k:=i.toNat) (by omega)
  have hxi:(ints L)[i.toNat * 1]? =some (.int .i64 x):=by simp [ints,hx]
  have hd:L.getD i.toNat 0=x:=by rw[List.getD_eq_getElem?_getD,hx];rfl
  rw[hd]
  clear hx
  refine AF2 Tryz.func167 O O O O O ?_
  repeat' (first|(apply E8;first|(apply A8;refine A9 ?_)|(apply C8;refine D7 O O ?_)|(apply E5;refine F7 O O O ?_;refine F9 O ?_)|(apply F5;refine F8 O O ?_;refine X8 hxi ?_)|(apply D5;refine D9 O O ?_)|(apply I6;refine J4 O O ?_;apply M6;refine M7 O ?_)|(apply M4;refine M8 (K7 O O O hlx (by omega) (by omega)) O ?_)|(apply K5;refine s_call (S9 O O) O ?_)|(apply I5;refine J9 O O O O ?_;first|(apply I1)|(apply P5<;>intro hq<;>(try (exfalso;omega)))))|(apply D6)|(apply G8)|(apply I4)|(apply A7)|(refine G5 O ?_;apply E9<;>intro hq<;>(try (exfalso;omega)))|(apply C9)|(apply J8))
  all_goals (first|(rw[if_pos (by omega)];refine N7 (by (exact .inr O)) O O0 ?_;rfl)|(rw[if_neg (by omega)];refine N7 (by (exact .inr O)) O O0 ?_;rfl))
 ·rw[if_neg (by omega)]
  refine AF2 Tryz.func167 O O O O O ?_
  repeat' (first|(apply E8;first|(apply A8;refine A9 ?_)|(apply C8;refine D7 O O ?_)|(apply E5;refine F7 O O O ?_;refine F9 O ?_)|(apply D5;refine D9 O O ?_)|(apply I6;refine J4 O O ?_;first|(apply P7;refine P6 O ?_)|(apply M6;refine M7 O ?_))|(apply K5;refine s_call (S9 O O) O ?_)|(apply I5;refine J9 O O O O ?_;first|(apply I1)|(apply d9)|(apply P5<;>intro hq<;>(try (exfalso;omega)))))|(apply D6)|(apply I4)|(apply A7)|(refine G5 O ?_;apply I1)|(apply C9)|(apply J8))
  all_goals (refine N7 (by (exact .inr O)) O O0 ?_;rfl)
end
theorem Ai2 (s:ByteArray) (c:Int) (w:World):
 Calls Tryz.prog 174 #[.string s,.int .u8 c] w fun e w'=>e= .returned (.int .i64 (Lib.indexByte s.data.toList c.toNat.toUInt8))∧w=w':=by
 go_enter Tryz.func174,Tryz.ntmps174
 go_wp2
 rw[run_callFunc_extern Tryz.func219 (by kernel_rfl) (by kernel_rfl) (by kernel_rfl) (e:=Extern.BytealgIndexByte.indexByte) (by kernel_rfl),Lib.run_indexByteString]
 simp only[Result.andThen]
 rw[Oper.upon_value]
 go_wp2
 go_ret
 exact⟨O,O⟩
theorem Az9 (s:ByteArray) (c:Int) (w:World):
 Calls Tryz.prog 117 #[.string s,.int .u8 c] w fun e w'=>e= .returned (.int .i64 (Lib.indexByte s.data.toList c.toNat.toUInt8))∧w=w':=by
 go_enter Tryz.func117,Tryz.ntmps117
 go_wp2_with (go_at_call 174;refine(Ai2 _ _ _).mono ?_;rintro e w' ⟨rfl,rfl⟩)
 go_ret
 exact⟨O,O⟩
abbrev sP (n:Int):Ps:=(n,0,e0,e0,e0)
def ctlU (p:Ps) (x:Int):Bool×Ps×List Ac:=
 if x=27 then (true,sP 1,if p.1=0 then [] else [dA])
 else if x=24∨x=26 then (true,sP 0,if p.1=0 then [] else [dA])
 else if x<32 then (true,p,[(2,x,0,e0,nA,e0)])
 else (decide (127≤x∧x≤159),p,[])
def escU (p:Ps) (x:Int):Ps×List Ac:=
 if x<48 then ((2,p.2.1,moreU p.2.2.1 x,p.2.2.2.1,p.2.2.2.2),[])
 else if p.1=2 then (sP 0,[finA p.2.2.1 (3,x,0,p.2.2.1,nA,e0)])
 else if x=91 then ((3,p.2),[])
 else if x=93 then ((7,p.2),[])
 else if x=80∨x=88∨x=94∨x=95 then ((9,p.2),[])
 else (sP 0,[finA p.2.2.1 (3,x,0,e0,nA,e0)])
def csiU (p:Ps) (x:Int) (r:Rx Int):Ps×List Ac:=
 if p.1=6 then (if 64≤x then (sP 0,[dA]) else (p,[]))
 else if x<48 then ((5,p.2.1,moreU p.2.2.1 x,p.2.2.2.1,p.2.2.2.2),[])
 else if 64≤x then (sP 0,[finA p.2.2.1 (4,x,p.2.1,p.2.2.1,r,e0)])
 else if p.1=5∨x=58 then (sP 6,[])
 else if x<60 then ((4,p.2.1,p.2.2.1,argU p.2.2.2.1 x,p.2.2.2.2),[])
 else if p.1=3 then ((4,x,p.2.2),[])
 else (sP 6,[])
theorem slD {G:Ctx} {H:List Ent}:∀y∈[dA],Sl ints G H y.2.2.2.2.1:=fun y h=>by
 rw[List.mem_singleton] at h
 subst h
 exact Sl.nil O
section
attribute [local irreducible] SW SL SQ AtQ SV SC BB LD PK Yields SO SOT SOA SY SP SPT SPA
theorem Aj7 (G:Ctx) (K:List Ent) (b:Nat) (s m:Int) (i g t:ByteArray) (X:List Ac) (a:Option Addr) (c:Nat) (x:Int) (hX:X.length≤10000000):SC Tryz.prog G 100 [.pointer (some ⟨b,0,none⟩),.int .i64 x] (mcH b (s,m,i,g,t) X a c K) (fun v H'=>∃a' c',v= .bool (ctlU (s,m,i,g,t) x).1∧H'=mcH b (ctlU (s,m,i,g,t) x).2.1 (X++(ctlU (s,m,i,g,t) x).2.2) a' c' K):=by
 have c1:=AK1 G K b s m i g t X a c 6 0 0 e0 nA e0 hX
 have c2:=AK1 G K b s m i g t X a c 2 x 0 e0 nA e0 hX
 have c3:=fun X a c n=>AS8 G K b s m i g t X a c n
 have c4:=fun H=>AT4 G H x 127 159
 unfold mcH at *
 dsimp only at *
 refine I7 Tryz.func100 O O O O O ?_
 repeat' (first|(apply E8;first|(apply A8;refine A9 ?_)|(apply C8;refine D7 O O ?_)|(apply E5;refine F7 O O O ?_;refine F9 O ?_)|(apply F5;refine F8 O O ?_;refine F4 O ?_)|(apply D5;refine D9 O O ?_)|(apply I6;refine J4 O O ?_;first|(apply P7;refine P6 O ?_)|(apply M6;refine M7 O ?_))|(apply G6;refine G7 (D8 O O) O ?_)|(apply U0;refine U6 (Q9 O O O) O ?_)|(apply I9;refine J7 (F6 O O) O ?_)|(apply H5;first|(refine c_call O O O c1 O O ?_;rintro _ _ ⟨a1,k1,rfl,rfl⟩)|(refine c_call O O O c2 O O ?_;rintro _ _ ⟨a1,k1,rfl,rfl⟩)|(refine c_call O O O (c3 _ _ _ _) O O ?_;rintro _ _ ⟨rfl,rfl⟩)|refine H6 O O O (c4 _) O O ?_)|(apply I5;refine J9 O O O O ?_;first|(apply I1)|(apply d9)|(apply P5<;>intro hq<;>(try (exfalso;omega)))))|(apply D6)|(apply G8)|(apply I4)|(apply F3)|(apply A7)|(refine G5 O ?_;first|(apply I1)|(apply E9<;>intro hq<;>(try (exfalso;omega)))|(apply Y7<;>intro hq<;>(try (exfalso;omega))))|(apply C9)|(apply J8)|(apply H9)|(apply U5))
 all_goals
  refine I8 _ (by (exact .inr O)) O (fun _ hw=>hw) ?_
  unfold ctlU
  dsimp only
  (repeat (first|rw[if_pos (by (first|assumption|omega))]|rw[if_neg (by (first|assumption|omega))]))
  try dsimp only
  (first|exact⟨_,_,O,O⟩|(rw[List.append_nil];exact⟨_,_,O,O⟩))
theorem B41 (G:Ctx) (H:List Ent) (x:Int) (hx:0≤x∧x≤255):SV Tryz.prog G 117 [.string ⟨#[80,88,94,95]⟩,.int .u8 x] H (.int .i64 (if x=80 then 0 else if x=88 then 1 else if x=94 then 2 else if x=95 then 3 else-1)):=by
 have h:=fun w=>Az9 ⟨#[80,88,94,95]⟩ x w
 have e:∀n:Nat,n<256→(Lib.indexByte (⟨#[80,88,94,95]⟩:ByteArray).data.toList (n:Int).toNat.toUInt8)=(if (n:Int)=80 then 0 else if (n:Int)=88 then 1 else if (n:Int)=94 then 2 else if (n:Int)=95 then 3 else-1):=by decide+kernel
 obtain⟨n,rfl⟩:=Int.eq_ofNat_of_zero_le hx.1
 have e:=e n (by omega)
 refine u6 (l8 Tryz.func117 O O) fun w hw=>(h w).mono ?_
 rintro _ _ ⟨rfl,rfl⟩
 exact⟨congrArg (fun z=>Ending.returned (.int .i64 z)) e,Below.refl _ _⟩
theorem BH7 (G:Ctx) (K:List Ent) (b:Nat) (s m:Int) (i g t:ByteArray) (X:List Ac) (a:Option Addr) (c:Nat) (x:Int) (hx:32≤x∧x≤126) (hX:X.length≤10000000):SC Tryz.prog G 101 [.pointer (some ⟨b,0,none⟩),.int .i64 x] (mcH b (s,m,i,g,t) X a c K) (fun v H'=>∃a' c',v=resV []∧H'=mcH b (escU (s,m,i,g,t) x).1 (X++(escU (s,m,i,g,t) x).2) a' c' K):=by
 have c1:=Ae6 G K b s m i g t X a c 3 x 0 i nA e0 hX
 have c2:=Ae6 G K b s m i g t X a c 3 x 0 e0 nA e0 hX
 have c3:=A10 G K b s m i g t X a c x (by omega)
 have c4:=fun H=>B41 G H x (by omega)
 unfold mcH at *
 dsimp only at *
 refine I7 Tryz.func101 O O O O O ?_
 repeat' (first|(apply E8;first|(apply A8;refine A9 ?_)|(apply C8;refine D7 O O ?_)|(apply E5;refine F7 O O O ?_;refine F9 O ?_)|(apply F5;refine F8 O O ?_;refine F4 O ?_)|(apply D5;refine D9 O O ?_)|(apply G6;refine G7 (D8 O O) O ?_)|(apply U0;refine U6 (Q9 O O O) O ?_)|(apply AA3;refine AA8 (AC1 (k:= .u8) O O ⟨by omega,by omega⟩) O ?_)|(apply I9;refine J7 (F6 O O) O ?_)|(apply H5;first|(refine c_call O O O c1 O O ?_;rintro _ _ ⟨a1,k1,rfl,rfl⟩)|(refine c_call O O O c2 O O ?_;rintro _ _ ⟨a1,k1,rfl,rfl⟩)|(refine c_call O O O c3 O O ?_;rintro _ _ ⟨rfl,rfl⟩)|refine H6 O O O (c4 _) O O ?_)|(apply H8;refine M9 O O O O O O O ?_))|(apply D6)|(apply F3)|(apply A7)|(refine G5 O ?_;apply E9<;>intro hq<;>(try (exfalso;omega)))|(apply C9)|(apply H9))
 all_goals
  refine I8 _ (by (exact .inl O)) O (fun _ hw=>hw) ?_
  unfold escU
  dsimp only
  (repeat (first|rw[if_pos (by (first|assumption|omega))]|rw[if_neg (by (first|assumption|omega))]))
  try dsimp only
  (first|exact⟨_,_,O,O⟩|(rw[List.append_nil];exact⟨_,_,O,O⟩))
theorem Bz3 (G:Ctx) (K:List Ent) (M:Int) (hM:∀H w,Holds G H w→w.cell? ⟨2,0,none⟩=some (.int .i64 M)) (b:Nat) (s m:Int) (i g t:ByteArray) (X:List Ac) (a:Option Addr) (c:Nat) (x:Int) (hx:32≤x∧x≤126) (hX:X.length≤10000000) (hg:g.size≤200):SC Tryz.prog G 102 [.pointer (some ⟨b,0,none⟩),.int .i64 x] (mcH b (s,m,i,g,t) X a c K) (fun v H'=>∃a2 c2 F a' c',v=resV []∧H'=mcH b (csiU (s,m,i,g,t) x (a2,c2,(readA g).1)).1 (X++(csiU (s,m,i,g,t) x (a2,c2,(readA g).1)).2) a' c' (F++K)∧∀y∈(csiU (s,m,i,g,t) x (a2,c2,(readA g).1)).2,Sl ints G F y.2.2.2.2.1):=by
 have c1:=fun K a2 c2=>Ae6 G K b s m i g t X a c 4 x m i (a2,c2,(readA g).1) e0 hX
 have c2:=fun K=>AU7 G K b s m i g t X a c 0 hX
 have c3:=A10 G K b s m i g t X a c x (by omega)
 have c4:=BL3 G K b s m i g t X a c
 have c5:=fun H=>Aj3 G H M hM g (by omega)
 have hcat:∀(g:ByteArray),g.size<100→g.size+(strOfNums [x]).size≤9223372036854775807:=fun i h=>by rw[strOfNums_size];simp;omega
 unfold mcH at *
 dsimp only at *
 refine I7 Tryz.func102 O O O O O ?_
 repeat' (first|(apply E8;first|(apply A8;refine A9 ?_)|(apply C8;refine D7 O O ?_)|(apply E5;refine F7 O O O ?_;first|(refine AN9 (hcat _ (by omega)) ?_)|(refine F9 O ?_))|(apply F5;refine F8 O O ?_;refine F4 O ?_)|(apply D5;refine D9 O O ?_)|(apply I6;refine J4 O O ?_;first|(apply P7;refine P6 O ?_)|(apply M6;refine M7 O ?_))|(apply G6;refine G7 (D8 O O) O ?_)|(apply U7;refine X7 (M0 O O O) O ?_)|(apply AA3;first|(refine AA8 (AC1 (k:= .i32) O O ⟨by omega,by omega⟩) O ?_)|(refine AA8 (Ak9 O O (by omega) (by omega)) O ?_))|(apply I9;refine J7 (F6 O O) O ?_)|(apply H5;first|(refine c_call O O O (c2 _) O O ?_;rintro _ _ ⟨a1,k1,rfl,rfl⟩)|(refine c_call O O O c3 O O ?_;rintro _ _ ⟨rfl,rfl⟩)|(refine c_call O O O c4 O O ?_;rintro _ _ ⟨rfl,rfl⟩)|(refine c_call O O O (c5 _) O O ?_;rintro _ _ ⟨a2,k2,rfl,rfl⟩))|(apply K5;refine s_call (U2 O O) O ?_)|(apply H8;refine M9 O O O O O O O ?_)|(apply I5;refine J9 O O O O ?_;first|(apply I1)|(apply d9)|(apply P5<;>intro hq<;>(try (exfalso;omega)))))|(apply D6)|(apply G8)|(apply F3)|((fail_if_success (refine J5 (id:=9) ?_));apply A7)|(refine G5 O ?_;first|(apply I1)|(apply E9<;>intro hq<;>(try (exfalso;omega))))|(apply C9)|(apply H9))
 all_goals first
  | (refine I8 _ (by first|exact .inl O|exact .inr O) O (fun _ hw=>hw) ⟨none,0,[],?_⟩
     unfold csiU argU
     dsimp only
     (repeat (first|rw[if_pos (by (first|assumption|omega))]|rw[if_neg (by (first|assumption|omega))]))
     first|exact⟨_,_,O,O,slD⟩|(rw[List.append_nil];exact⟨_,_,O,O,fun _ h=>nomatch h⟩))
  | skip
 refine Z5 (.blk b 152 [.int .i64 s,.int .i64 m,.string i,.string g,.string t,.slice a X.length c]:: .own 160 6 a X.length c (acs X):: .own 3 1 a2 (readA g).1.length k2 (ints (readA g).1)::K) J3 ?_
 refine AE0 14 (.blk b 152 [.int .i64 s,.int .i64 m,.string i,.string g,.string t,.slice a X.length c]:: .own 160 6 a X.length c (acs X):: .own 3 1 a2 (readA g).1.length k2 (ints (readA g).1)::K) K J3 O ?_
 repeat' (first|(apply E8;first|(apply A8;refine A9 ?_)|(apply H5;refine c_call O O O (c1 _ a2 k2) O O ?_;rintro _ _ ⟨a1,k1,rfl,rfl⟩))|(apply Q0;refine N8 (k:=0) J3 ?_)|(apply U3;first|(refine L8 O ?_)|(refine N9 (by decide+kernel) ?_))|(apply AL2;first|(refine AC5 O O O O (by kernel_rfl) (by decide+kernel) (by decide+kernel) (by decide+kernel) ?_;first|(apply O1;refine G9 (P9 O O) ?_)|(apply R9;refine R6 O ?_;refine F4 O ?_)|(apply M3;refine G9 (D8 O O) ?_)|(apply AM5;refine G9 (Q9 O O O) ?_)|(apply R5;refine G9 (F6 O O) ?_))|(refine AC9 O ?_)|(refine AE2 (by kernel_rfl) ?_))|(apply AL3;first|(refine AE1 O)|(refine AH6 (by decide+kernel) ?_)|(refine AH3 O O ?_ ?_))|(apply H9))
 refine I8 _ (.inl O) O (fun _ hw=>hw) ⟨a2,k2,[.own 3 1 a2 (readA g).1.length k2 (ints (readA g).1)],?_⟩
 unfold csiU
 dsimp only
 (repeat (first|rw[if_pos (by (assumption))]|rw[if_neg (by (assumption))]))
 refine⟨_,_,O,O,fun y h=>?_⟩
 rw[List.mem_singleton] at h
 subst h
 unfold finA
 split
 ·exact Sl.nil O
 ·exact Sl.own List.mem_cons_self O O
end
def runeL (c:Int):List Int:=
 if c<128 then [c] else if c<2048 then [192+c / 64,128+c % 64] else if c<65536 then [224+c / 4096,128+c / 64 % 64,128+c % 64]
 else [240+c / 262144,128+c / 4096 % 64,128+c / 64 % 64,128+c % 64]
theorem BK0 (c:Int) (h0:0≤c) (h1:c≤1114111):∀x∈runeL c,0≤x∧x<256:=by
 intro x hx
 unfold runeL at hx
 split at hx
 ·simp at hx;omega
 ·split at hx
  ·simp at hx;omega
  ·split at hx<;>(simp at hx;omega)
theorem AX4 (c:Int):(runeL c).length≤4:=by
 unfold runeL;split<;>(try split)<;>(try split)<;>simp
theorem Ah8 {k:IntKind} (l:List Int):∀u∈l.map (Value.int k),u.oneCell'=true:=by
 intro u hu
 obtain⟨x,_,rfl⟩:=List.mem_map.1 hu
 rfl
theorem BA4 (c:Int) (w:World) (v:Value) (n B:Nat) (xs:List Int) (hn:n≤100000000) (hB:B≤w.heap.size) (hown:w.ownsRow B 5 1 v n (octs xs)) (h0:128≤c) (h1:c<2048):
 Calls Tryz.prog 69 #[v,.int .i32 c] w fun e w'=>∃v',e= .returned v'∧w'.ownsRow B 5 1 v' (n+(runeL c).length) (octs (xs++runeL c))∧Below B w w':=by
 have hl:runeL c=[192+c / 64,128+c % 64]:=by unfold runeL;rw[if_neg (by omega),if_pos (by omega)]
 rw[hl]
 clear hl
 go_enter Tryz.func69,Tryz.ntmps69
 go_wp2_with (at_builtin;(refine AW9 O _ _ 106 O B 5 (.int .u8 0) 1 1 Tryz.underlying106 u8i O (by decide) (by decide) _ _ _ O hown w.heap.size 2 [.int .u8 (192+c / 64),.int .u8 (128+c % 64)] O O O O (Ah8 [192+c / 64,128+c % 64]) (by omega) hB ?_);intro v3 w3 hown3 hb3)
 go_wp2_with fail
 go_ret
 exact⟨v3,O,by simpa [octs] using hown3,hb3⟩
theorem A97 (c:Int) (w:World) (v:Value) (n B:Nat) (xs:List Int) (hn:n≤100000000) (hB:B≤w.heap.size) (hown:w.ownsRow B 5 1 v n (octs xs)) (h0:2048≤c) (h1:c<65536) (hs:c<55296∨57343<c):
 Calls Tryz.prog 69 #[v,.int .i32 c] w fun e w'=>∃v',e= .returned v'∧w'.ownsRow B 5 1 v' (n+(runeL c).length) (octs (xs++runeL c))∧Below B w w':=by
 have hl:runeL c=[224+c / 4096,128+c / 64 % 64,128+c % 64]:=by unfold runeL;rw[if_neg (by omega),if_neg (by omega),if_pos (by omega)]
 rw[hl]
 clear hl
 rcases hs with hs|hs
 all_goals
  go_enter Tryz.func69,Tryz.ntmps69
  go_wp2_with (at_builtin;(refine AW9 O _ _ 106 O B 5 (.int .u8 0) 1 1 Tryz.underlying106 u8i O (by decide) (by decide) _ _ _ O hown w.heap.size 3 [.int .u8 (224+c / 4096),.int .u8 (128+c / 64 % 64),.int .u8 (128+c % 64)] O O O O (Ah8 [224+c / 4096,128+c / 64 % 64,128+c % 64]) (by omega) hB ?_);intro v3 w3 hown3 hb3)
  go_wp2_with fail
  go_ret
  exact⟨v3,O,by simpa [octs] using hown3,hb3⟩
theorem BA6 (c:Int) (w:World) (v:Value) (n B:Nat) (xs:List Int) (hn:n≤100000000) (hB:B≤w.heap.size) (hown:w.ownsRow B 5 1 v n (octs xs)) (h0:65536≤c) (h1:c≤1114111):
 Calls Tryz.prog 69 #[v,.int .i32 c] w fun e w'=>∃v',e= .returned v'∧w'.ownsRow B 5 1 v' (n+(runeL c).length) (octs (xs++runeL c))∧Below B w w':=by
 have hl:runeL c=[240+c / 262144,128+c / 4096 % 64,128+c / 64 % 64,128+c % 64]:=by unfold runeL;rw[if_neg (by omega),if_neg (by omega),if_neg (by omega)]
 rw[hl]
 clear hl
 go_enter Tryz.func69,Tryz.ntmps69
 go_wp2_with (at_builtin;(refine AW9 O _ _ 106 O B 5 (.int .u8 0) 1 1 Tryz.underlying106 u8i O (by decide) (by decide) _ _ _ O hown w.heap.size 4 [.int .u8 (240+c / 262144),.int .u8 (128+c / 4096 % 64),.int .u8 (128+c / 64 % 64),.int .u8 (128+c % 64)] O O O O (Ah8 [240+c / 262144,128+c / 4096 % 64,128+c / 64 % 64,128+c % 64]) (by omega) hB ?_);intro v3 w3 hown3 hb3)
 go_wp2_with fail
 go_ret
 exact⟨v3,O,by simpa [octs] using hown3,hb3⟩
theorem Ar0 (c:Int) (w:World) (v:Value) (n B:Nat) (xs:List Int) (hn:n≤100000000) (hB:B≤w.heap.size) (hown:w.ownsRow B 5 1 v n (octs xs)) (h0:0≤c) (h1:c≤1114111) (hs:c<55296∨57343<c):
 Calls Tryz.prog 41 #[v,.int .i32 c] w fun e w'=>∃v',e= .returned v'∧w'.ownsRow B 5 1 v' (n+(runeL c).length) (octs (xs++runeL c))∧Below B w w':=by
 by_cases h2:c<128
 ·have hl:runeL c=[c]:=by unfold runeL;rw[if_pos h2]
  rw[hl]
  clear hl
  go_enter Tryz.func41,Tryz.ntmps41
  go_wp2_with (at_builtin;(refine AW9 O _ _ 106 O B 5 (.int .u8 0) 1 1 Tryz.underlying106 u8i O (by decide) (by decide) _ _ _ O hown w.heap.size 1 [.int .u8 (c)] O O O O (Ah8 [c]) (by omega) hB ?_);intro v3 w3 hown3 hb3)
  go_wp2_with fail
  go_ret
  exact⟨v3,O,by simpa [octs] using hown3,hb3⟩
 ·have hc:Calls Tryz.prog 69 #[v,.int .i32 c] w fun e w'=>∃v',e= .returned v'∧w'.ownsRow B 5 1 v' (n+(runeL c).length) (octs (xs++runeL c))∧Below B w w':=by
   by_cases h3:c<2048
   ·exact BA4 c w v n B xs hn hB hown (by omega) h3
   ·by_cases h4:c<65536
    ·exact A97 c w v n B xs hn hB hown (by omega) h4 hs
    ·exact BA6 c w v n B xs hn hB hown (by omega) h1
  clear hown hs
  go_enter Tryz.func41,Tryz.ntmps41
  go_wp2_with fail
  refine hc.mono ?_
  rintro e w1 ⟨v',rfl,hown1,hb1⟩
  go_wp2_with fail
  go_ret
  exact⟨v',O,hown1,hb1⟩
def fixR (c:Int):Int:=if c<0∨1114111<c∨(55296≤c∧c≤57343) then 65533 else c
def encL (xs:List Int):List Int:=xs.flatMap (fun c=>runeL (fixR c))
theorem BN7 (xs:List Int) (k:Nat) (h:k<xs.length):encL (xs.take (k+1))=encL (xs.take k)++runeL (fixR (xs.getD k 0)):=by
 have e:xs.getD k 0=xs[k]:=by rw[List.getD_eq_getElem?_getD,List.getElem?_eq_getElem h];rfl
 unfold encL
 rw[List.take_succ_eq_append_getElem h,List.flatMap_append,e]
 simp
theorem AF9 (xs:List Int):(encL xs).length≤4 * xs.length:=by
 unfold encL
 induction xs with
 | nil=>simp
 | cons x xs ih=>
   have:=AX4 (fixR x)
   rw[List.flatMap_cons,List.length_append,List.length_cons]
   omega
theorem An9 (xs:List Int) (a:Option Addr) (n c:Nat) (w:World) (hn:n=xs.length) (hm:xs.length≤20000000) (h1:At w a (ints xs)):
 Calls Tryz.prog 17 #[.slice a n c] w fun e w'=>e= .returned (.string (strOfNums (encL xs)))∧Below w.heap.size w w':=by
 have Hn:=Lib.hid hn
 rw[←hn] at hm
 clear hn
 go_enter Tryz.func17,Tryz.ntmps17
 go_wp2_with fail
 go_loopw [3,8] (fun v i wr=>∃k:Nat,k≤n∧i= .int .i64 k∧wr.ownsRow w.heap.size 5 1 v (encL (xs.take k)).length (octs (encL (xs.take k)))∧Below w.heap.size w wr) (fun _ i _=>n-(intOf i).toNat)
 case atStart=>exact⟨0,Nat.zero_le _,O,World.ownsRow_nil _ _ _ _,Below.refl _ _⟩
 case round=>
  obtain⟨k,hk,rfl,hown,hbl⟩:=hrel
  by_cases hlt:k<n
  ·obtain⟨b,o,ha,hb,hc⟩:=h1.int (i:=k) (by rw[←Hn.out];exact hlt)
   rw[ha]
   have hx:=(hbl.cell (p:=⟨b,o+k,none⟩) hb).trans (hc k (by rw[←Hn.out];exact hlt))
   have hlen:(encL (xs.take k)).length≤100000000:=by
    have:=AF9 (xs.take k)
    rw[List.length_take] at this
    omega
   have Hstep:=Lib.hid (BN7 xs k (by rw[←Hn.out];exact hlt))
   clear hc ha
   generalize xs.getD k 0=x at *
   generalize encL (xs.take k)=Z at *
   have hcase:(x<0∧Hid (fixR x=65533))∨(¬x<0∧1114111<x∧Hid (fixR x=65533))∨(¬x<0∧¬1114111<x∧55296≤x∧x≤57343∧Hid (fixR x=65533))∨(¬x<0∧¬1114111<x∧¬55296≤x∧Hid (fixR x=x))∨(¬x<0∧¬1114111<x∧55296≤x∧¬x≤57343∧Hid (fixR x=x)):=by
    unfold Hid fixR
    split<;>omega
   rcases hcase with ⟨p1,hf⟩|⟨p1,p2,hf⟩|⟨p1,p2,p3,p4,hf⟩|⟨p1,p2,p3,hf⟩|⟨p1,p2,p3,p4,hf⟩
   all_goals
    go_wp2_with fail
    refine(Ar0 _ _ _ _ _ Z hlen hbl.size hown (by omega) (by omega) (by omega)).mono ?_
    rintro e w1 ⟨v',rfl,hown1,hb1⟩
    have hbl1:=hbl.trans hb1
    clear hown hbl hb1
    go_wp2_with fail
    go_roundw
    case rel=>exact⟨k+1,by omega,by go_num,by rw[Hstep.out,hf.out,List.length_append];exact hown1,hbl1⟩
    case measure=>simp [intOf];omega
  ·obtain rfl:k=n:=by omega
   obtain⟨a',c',hv,hat⟩:=At.own hown
   have hcv:=Av1 (P:=Tryz.prog) Tryz.underlying106 Tryz.underlying5 Tryz.underlying9 c' rfl hat
   rw[List.take_of_length_le (by rw[Hn.out];exact Nat.le_refl _)] at hcv hv
   rw[hv]
   clear hown hat
   go_wp2_with fail
   go_ret
   exact⟨O,hbl⟩
end Go.Proofs.YtmmnimagbnlcmaaGreatDoor
